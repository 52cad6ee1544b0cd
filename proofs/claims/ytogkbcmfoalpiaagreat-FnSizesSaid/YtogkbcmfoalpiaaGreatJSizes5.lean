/- Texts of the proof of FnSizes, joined: ES3b, ES4, ES5, Appl, Wr, App2, All, AllN, EN1, ED4, ED5, BkOk, BkStep, BkStep2, BkStep3, BkStep4, PoOk. -/
import Derived.Test.YtogkbcmfoalpiaaGreatJSizes4
import Derived.Test.YtogkbcmfoalpiaaGreatJSizes2
import Derived.Test.YtogkbcmfoalpiaaGreatJSizes3
namespace Go.Proofs.YtogkbcmfoalpiaaGreat
open Go.RowKit
set_option maxHeartbeats 16000000
set_option maxRecDepth 100000
set_option linter.unusedSimpArgs false
set_option linter.unusedVariables false
theorem slau_e (g : Value) (x : Book) (e : Event) (fi : BookFi x) (es : EvSm e) (hne : e.ch ≠ e.to) : GC Tryz.prog 60 [.ptr 0 0 0,evV e] (sIn g x [] 0) (.tup []) (sOut g (lauR x e)) := by
 have sm := fi.sm
 have hm : x.chans.length ≤ 1000000000 := by have := sm.lc;omega
 have hlh := sm.lh
 have hli := sm.li
 have hmh1 : x.htlcs.length ≤ 1000 := by omega
 have hmc1 : x.circles.length ≤ 1000 := by omega
 have hLh : decide ((x.htlcs.length : Int) = 60) = decide ((60 : Int) ≤ (x.htlcs.length : Int)) := by apply decide_eq_decide.2;omega
 have hLi : decide ((x.circles.length : Int) = 20) = decide ((20 : Int) ≤ (x.circles.length : Int)) := by apply decide_eq_decide.2;omega

 refine GC.intro (rs := []) Tryz.func60 rfl Tryz.ntmps60 (Nat.le_of_ble_eq_true rfl) trivial ?_
 intro L O w0
 refine sL<|lst (zX 2003 rfl) Z<|nG<|aS<|aS<|aF [9,22,33]<|pq 0 (qmP rfl)<|pq 1 (qmP rfl)<|pq 2 (qc rfl)<|pq 3 (qf 0 ty.F91_0 rfl)<|sq 4 (roX (.agg [vI _ _,vI _ _,vI _ _,.own _,.own _,.own _]) ty.kd27 rfl)<|pq 6 (qf 1 ty.F29_1 rfl)<|sq 7 (roI ty.kd3 rfl)<|vst 5 rfl (St.lendO 2011 rfl (by intro s hs;cases hs;decide) rfl Tryz.func110 rfl rfl (skeys_e x hmh1 hmc1) flat_rowsOf rfl) (.inr rfl)<|vst 8 rfl (zL Tryz.func109 (shasInt_e (keyL x) _ (by unfold keyL;simp;omega)) rfl) (.inr rfl)<|fsB 14 (knownB x e.key) rfl (any_keys x e.key) ?_
 refine vst 9 rfl (z5a Tryz.func51 (scode_e _ _ _ _ _ _ _ _ _ _ _ _ _ _ _ _ _ _ _ ) (⟨stays.box (Eq.refl 8),trivial⟩) rfl rfl) (.inl rfl)<|vq 10 (rmB rfl) ?_
 refine AF.bool (t := 16) rfl ?_ ?_
 ·intro h1
  refine pno 11 Z<|pno 12 Z<|pno 13 Z<|pno 14 Z<|pno 15 Z<|pno 16 Z<|pno 17 Z<|vno 18 Z<|vno 19 Z<|vno 20 Z<|vno 21 Z<|vno 22 Z<|vq 23 (rkT Z)<|vq 24 (rmT Z)<|pno 25 Z<|vno 26 Z<|vno 27 Z<|vno 28 Z<|vno 29 Z<|vno 30 Z<|vno 31 Z<|vno 32 Z<|vno 33 Z<|vq 34 (rkT Z)<|fD<|gT<|aY Z<|aR<|rT ?_
  have hcd : lauC0 x e = failC (knownB x e.key) 0 9 := by
    have h := h1
    unfold lauC0
    rw [miss_two hne]
    simp only [zb1,zb2,zb3,zb4] at h
    rw [failC_old (c := failC (!two x.chans e.ch e.to) (failC (knownB x e.key) 0 9) 6) (failC_keep h),failC_old h]
  have hn : lauC0 x e ≠ 0 := by
    have h := h1
    simp only [zb1,zb2,zb3,zb4] at h
    rw [hcd];exact h
  have hcd2 : lauC x e = lauC0 x e := by
    unfold lauC
    rw [failC_old (failC_keep (failC_keep hn)),failC_old (failC_keep hn),failC_old hn]
  rw [lauR_no (by rw [hcd2];exact hn),hcd2,hcd]
  refine end_ret ?_ ⟨rfl,rfl,rfl,rfl,rfl,trivial⟩
  rfl
 ·intro h1
  refine pq 11 (qmP Z)<|pq 12 (qmP Z)<|pq 13 (qc Z)<|pq 14 (qf 0 ty.F91_0 Z)<|sq 15 (roX (.agg [vI _ _,vI _ _,vI _ _,.own _,.own _,.own _]) ty.kd27 Z)<|pq 16 (qf 2 ty.F29_2 Z)<|sq 17 (roI ty.kd3 Z)<|vq 18 (rf 3 ty.F29_3 Z)<|vq 19 (roI ty.kd3 Z)<|vst 20 Z (zL Tryz.func111 (stwo_e x _ _ hm) Z) (.inr Z)<|vq 21 (ruB Z) ?_
  refine vst 22 rfl (z5a Tryz.func51 (scode_e _ _ _ _ _ _ _ _ _ _ _ _ _ _ _ _ _ _ _ ) (⟨stays.box (Eq.refl 8),trivial⟩) rfl rfl) (.inl rfl)<|vq 23 (rkB rfl)<|vq 24 (rmB rfl) ?_
  refine AF.bool (t := 30) rfl ?_ ?_
  ·intro h2
   refine pno 25 Z<|vno 26 Z<|vno 27 Z<|vno 28 Z<|vno 29 Z<|vno 30 Z<|vno 31 Z<|vno 32 Z<|vno 33 Z<|vq 34 (rkT Z)<|fD<|gT<|aT [0,3,40] [0,1,2,3,4,2003,2011] ?_
   refine aY Z<|aR<|rT ?_
   have hcd : lauC0 x e = failC (!two x.chans e.ch e.to) (failC (knownB x e.key) 0 9) 6 := by
     have h := h2
     unfold lauC0
     rw [miss_two hne]
     simp only [zb1,zb2,zb3,zb4] at h
     rw [failC_old h]
   have hn : lauC0 x e ≠ 0 := by
     have h := h2
     simp only [zb1,zb2,zb3,zb4] at h
     rw [hcd];exact h
   have hcd2 : lauC x e = lauC0 x e := by
     unfold lauC
     rw [failC_old (failC_keep (failC_keep hn)),failC_old (failC_keep hn),failC_old hn]
   rw [lauR_no (by rw [hcd2];exact hn),hcd2,hcd]
   refine end_ret ?_ ⟨rfl,rfl,rfl,rfl,rfl,trivial⟩
   rfl
  ·intro h2
   refine pq 25 (qmP rfl)<|vq 26 (rmP rfl)<|vq 27 (rc rfl)<|vq 28 (rf 0 ty.F91_0 rfl)<|vq 29 (rf 5 ty.F27_5 rfl)<|vq 30 (roO ty.kd25 rfl)<|vq 31 (rnI ty.sl25 rfl)<|vq 32 (rbB rfl)<|fsB 38 (decide ((20 : Int) ≤ (x.circles.length : Int))) rfl (by rw [length_rowsOf];exact hLi) ?_
   refine vst 33 rfl (z5a Tryz.func51 (scode_e _ _ _ _ _ _ _ _ _ _ _ _ _ _ _ _ _ _ _ ) (⟨stays.box (Eq.refl 8),trivial⟩) rfl rfl) (.inl rfl)<|vq 34 (rkB rfl)<|fD<|gT ?_
   refine AW.cond rfl ?_ ?_
   ·intro h3
    refine aR<|rT ?_
    have hcd : lauC0 x e = failC (decide ((20 : Int) ≤ (x.circles.length : Int))) (failC (!two x.chans e.ch e.to) (failC (knownB x e.key) 0 9) 6) 14 := by
      unfold lauC0
      rw [miss_two hne]
    have hn : lauC0 x e ≠ 0 := by
      have h := h3
      simp only [zb1,zb2,zb3,zb4] at h
      rw [hcd];exact h
    have hcd2 : lauC x e = lauC0 x e := by
      unfold lauC
      rw [failC_old (failC_keep (failC_keep hn)),failC_old (failC_keep hn),failC_old hn]
    rw [lauR_no (by rw [hcd2];exact hn),hcd2,hcd]
    refine end_ret ?_ ⟨rfl,rfl,rfl,rfl,rfl,trivial⟩
    rfl
   ·intro h3
    refine aK<|gT<|aS ?_
    have hz0 : lauC0 x e = 0 := by
      have h := h3
      unfold lauC0
      rw [miss_two hne]
      simp only [zb1,zb2,zb3,zb4] at h
      exact h
    have htw : two x.chans e.ch e.to = true := by
      rcases q : two x.chans e.ch e.to with _ | _
      ·exfalso
       have h := hz0
       unfold lauC0 at h
       rw [miss_two hne,q] at h
       exact failC_keep (failC_set (by decide)) h
      ·rfl
    obtain ⟨hne2,hca,hda⟩ := two_parts (show two x.chans e.ch e.to = true by first | (simpa using htw))
    obtain ⟨i,c,hi,hc,ho,hid⟩ := chan_there hca
    obtain ⟨j,d,hj,hd,hp,hjd⟩ := chan_there hda
    have hcm := sm.chans c (mem_of_get hc)
    have hdm := sm.chans d (mem_of_get hd)
    have hij : i ≠ j := idx_ne hc hd (by rw [hid,hjd];exact hne)
    refine AW.obj 0 (sBox g x.tick x.next x.wallet 0) (Eq.trans (b := sBox g x.tick x.next x.wallet _) rfl (congrArg (sBox g x.tick x.next x.wallet) (by have h := hz0;unfold lauC0 at h;rw [miss_two hne] at h;exact h))) ?_
    have hA : lauC x e = failC (decide (d.remote < e.amt)) (failC (decide (c.loc < addV e.amt e.fee)) (failC (!addOk e.amt e.fee) 0 10) 12) 11 := by unfold lauC;rw [ho,hp,hz0]
    refine aL<|lf 4 ty.F29_4 Z<|loI ty.kd3 Z<|lf 5 ty.F29_5 Z<|loI ty.kd3 Z<|lst (zL Tryz.func52 (saddAmt_e _ _) Z) Z<|lmX (.tup [vI _ _,vB _]) Z<|lxI Z<|lxB Z<|laI Z<|laB Z<|nG<|aS<|aS<|aF [3,23,45]<|pq 0 (qmP Z)<|vq 1 (rmB Z)<|vq 2 (ruB Z) ?_
    refine vst 3 rfl (z5a Tryz.func51 (scode_e _ _ _ _ _ _ _ _ _ _ _ _ _ _ _ _ _ _ _ ) (⟨stays.box (Eq.refl 8),trivial⟩) rfl rfl) (.inl rfl)<|vq 4 (rmB rfl) ?_
    refine AF.bool (t := 53) rfl ?_ ?_
    ·intro h4
     refine pno 5 Z<|pno 6 Z<|pno 7 Z<|pno 8 Z<|pno 9 Z<|pno 10 Z<|pno 11 Z<|pno 12 Z<|pno 13 Z<|pno 14 Z<|pno 15 Z<|pno 16 Z<|pno 17 Z<|pno 18 Z<|pno 19 Z<|pno 20 Z<|vno 21 Z<|vno 22 Z<|vno 23 Z<|vq 24 (rkT Z)<|vq 25 (rmT Z)<|pno 26 Z<|pno 27 Z<|pno 28 Z<|pno 29 Z<|pno 30 Z<|pno 31 Z<|pno 32 Z<|pno 33 Z<|pno 34 Z ?_
     refine pno 35 Z<|pno 36 Z<|pno 37 Z<|pno 38 Z<|pno 39 Z<|pno 40 Z<|pno 41 Z<|vno 42 Z<|vno 43 Z<|vno 44 Z<|vno 45 Z<|vq 46 (rkT Z)<|fD<|gT<|aY Z<|aR<|rT ?_
     have hcd : lauC x e = failC (!addOk e.amt e.fee) 0 10 := by
       have h := h4
       simp only [zb1,zb2,zb3,zb4] at h
       rw [hA]
       rw [failC_old (failC_keep h),failC_old h]
     have hn : lauC x e ≠ 0 := by
       have h := h4
       simp only [zb1,zb2,zb3,zb4] at h
       rw [hcd];exact h
     rw [lauR_no hn,hcd]
     refine end_ret ?_ ⟨rfl,rfl,rfl,rfl,rfl,trivial⟩
     rfl
    ·intro h4
     refine pq 5 (qmP rfl)<|pq 6 (qmP rfl)<|pq 7 (qc rfl)<|pq 8 (qf 0 ty.F91_0 rfl)<|pq 9 (qf 3 ty.F27_3 rfl)<|sq 10 (roO ty.kd23 rfl)<|pq 11 (qmP rfl)<|pq 12 (qc rfl)<|pq 13 (qf 0 ty.F91_0 rfl)<|sq 14 (roX (.agg [vI _ _,vI _ _,vI _ _,.own _,.own _,.own _]) ty.kd27 rfl)<|pq 15 (qf 2 ty.F29_2 rfl)<|sq 16 (roI ty.kd3 rfl)<|pq 21 (qmX (vI _ _) rfl)<|vst 17 rfl (zL Tryz.func55 (sAt_e x _ hm) rfl) (.inr rfl)<|vq 18 (rd (x := .ptr 1 _ 0) (rd_iaddr_own (i := i) rfl ty.el23 rfl rfl rfl ?hn1 (by rw [length_rowsOf];exact (List.getElem?_eq_some_iff.1 hc).1)) rfl) ?_
     case hn1 => rw [← chanAt_atI];exact hi
     refine vq 19 (rf 2 ty.F40_2 Z)<|vq 20 (rd (x := vI _ _) (rd_load_arr Z ty.kd3 Z Z Z (rows_some hc) Z) Z)<|vq 22 (rbB Z) ?_
     refine vst 23 rfl (z5a Tryz.func51 (scode_e _ _ _ _ _ _ _ _ _ _ _ _ _ _ _ _ _ _ _ ) (⟨stays.box (Eq.refl 8),trivial⟩) rfl rfl) (.inl rfl)<|vq 24 (rkB rfl)<|vq 25 (rmB rfl) ?_
     refine AF.bool (t := 74) rfl ?_ ?_
     ·intro h5
      refine pno 26 Z<|pno 27 Z<|pno 28 Z<|pno 29 Z<|pno 30 Z<|pno 31 Z<|pno 32 Z<|pno 33 Z<|pno 34 Z<|pno 35 Z<|pno 36 Z<|pno 37 Z<|pno 38 Z<|pno 39 Z<|pno 40 Z<|pno 41 Z<|vno 42 Z<|vno 43 Z<|vno 44 Z<|vno 45 Z<|vq 46 (rkT Z)<|fD<|gT<|aT [0,3,4,95] [0,1,2,3,4,2003,2011] ?_
      refine aY Z<|aR<|rT ?_
      have hcd : lauC x e = failC (decide (c.loc < addV e.amt e.fee)) (failC (!addOk e.amt e.fee) 0 10) 12 := by
        have h := h5
        simp only [zb1,zb2,zb3,zb4] at h
        rw [hA]
        rw [failC_old h]
      have hn : lauC x e ≠ 0 := by
        have h := h5
        simp only [zb1,zb2,zb3,zb4] at h
        rw [hcd];exact h
      rw [lauR_no hn,hcd]
      refine end_ret ?_ ⟨rfl,rfl,rfl,rfl,rfl,trivial⟩
      rfl
     ·intro h5
      refine pq 26 (qmP rfl)<|pq 27 (qmP rfl)<|pq 28 (qc rfl)<|pq 29 (qf 0 ty.F91_0 rfl)<|pq 30 (qf 3 ty.F27_3 rfl)<|sq 31 (roO ty.kd23 rfl)<|pq 32 (qmP rfl)<|pq 33 (qc rfl)<|pq 34 (qf 0 ty.F91_0 rfl)<|sq 35 (roX (.agg [vI _ _,vI _ _,vI _ _,.own _,.own _,.own _]) ty.kd27 rfl)<|pq 36 (qf 3 ty.F29_3 rfl)<|sq 37 (roI ty.kd3 rfl)<|pq 42 (qf 4 ty.F29_4 rfl)<|sq 43 (roI ty.kd3 rfl)<|vst 38 rfl (zL Tryz.func55 (sAt_e x _ hm) rfl) (.inr rfl)<|vq 39 (rd (x := .ptr 1 _ 0) (rd_iaddr_own (i := j) rfl ty.el23 rfl rfl rfl ?hn2 (by rw [length_rowsOf];exact (List.getElem?_eq_some_iff.1 hd).1)) rfl) ?_
      case hn2 => rw [← chanAt_atI];exact hj
      refine vq 40 (rf 3 ty.F40_3 Z)<|vq 41 (rd (x := vI _ _) (rd_load_arr Z ty.kd3 Z Z Z (rows_some hd) Z) Z)<|vq 44 (rbB Z) ?_
      refine vst 45 rfl (z5a Tryz.func51 (scode_e _ _ _ _ _ _ _ _ _ _ _ _ _ _ _ _ _ _ _ ) (⟨stays.box (Eq.refl 8),trivial⟩) rfl rfl) (.inl rfl)<|vq 46 (rkB rfl)<|fD<|gT ?_
      refine AW.cond rfl ?_ ?_
      ·intro h6
       refine aR<|rT ?_
       have hcd : lauC x e = failC (decide (d.remote < e.amt)) (failC (decide (c.loc < addV e.amt e.fee)) (failC (!addOk e.amt e.fee) 0 10) 12) 11 := hA
       have hn : lauC x e ≠ 0 := by
         have h := h6
         simp only [zb1,zb2,zb3,zb4] at h
         rw [hcd];exact h
       rw [lauR_no hn,hcd]
       refine end_ret ?_ ⟨rfl,rfl,rfl,rfl,rfl,trivial⟩
       rfl
      ·intro h6
       refine aK<|gT<|aS ?_
       have hy0 : lauC x e = 0 := by
         rw [hA]
         have h := h6
         simp only [zb1,zb2,zb3,zb4] at h
         exact h
       refine aF [18,22]<|pq 0 (qmP Z)<|pq 1 (qmP Z)<|pq 2 (qc Z)<|pq 3 (qf 0 ty.F91_0 Z)<|pq 4 (qf 5 ty.F27_5 Z)<|sq 5 (roO ty.kd25 Z)<|pq 6 (qf 1 ty.F29_1 Z)<|sq 7 (roI ty.kd3 Z)<|pq 8 (qf 2 ty.F29_2 Z)<|fT [0,3,4,96,101,103,104] [0,1,2,3,4,2003,2011] ?_
       refine sq 9 (roI ty.kd3 Z)<|pq 10 (qf 3 ty.F29_3 Z)<|sq 11 (roI ty.kd3 Z)<|pq 12 (qf 4 ty.F29_4 Z)<|sq 13 (roI ty.kd3 Z)<|vq 14 (rf 5 ty.F29_5 Z)<|vq 15 (roI ty.kd3 Z)<|vq 16 (rd (x := .agg [vI _ _,vI _ _,vI _ _,vI _ _,vI _ _]) (rd_build Z ty.sa78 Z Z Z) Z) ?_
       refine vst 17 rfl (zS 2113 (rowsOf encCircle [⟨e.key,e.ch,e.to,e.amt,e.fee⟩]) ty.el25 ty.ze78 rfl) (.inr rfl)<|vst 18 rfl (zP 3 ty.el25 ty.ze78 ty.by78 rfl (Src.own rfl rfl) (by have := sm.li;simp [rowsOf];omega)) (.inl rfl)<|vq 19 (rc rfl)<|vq 20 (rf 0 ty.F91_0 rfl)<|vq 21 (rf 5 ty.F27_5 rfl)<|vst 22 rfl (zB 0 ty.co25 ty.inf25 rfl) (.inl rfl)<|fT [0,3,4] [0,1,2,3,4,2003,2011,2113] ?_
       refine fD<|gT ?_
       refine AW.obj 3 (iAr (x.circles ++ [⟨e.key,e.ch,e.to,e.amt,e.fee⟩])) ((congrArg (AO.arr 78 5) (rowsOf_app encCircle _ [_]).symm)) ?_
       refine sL<|lmP Z<|lf 2 ty.F29_2 Z<|loI ty.kd3 Z<|lmI Z<|lq (rd (x := vI _ _) (rd_un rfl rfl (fits_i64 (by have h2 : A50 (addV e.amt e.fee) := addV_A50 _ _;unfold A50 at *;unfold i64;omega))) rfl) ?_
       refine lst (z5a Tryz.func114 (smove_e _ ({ x with circles := x.circles ++ [⟨e.key,e.ch,e.to,e.amt,e.fee⟩] }) _ _ _ _ _ (hm) i c (hi) (hc) (by have h1 := hcm.1;have h2 : A50 (addV e.amt e.fee) := addV_A50 _ _;unfold A50 at *;unfold i64;omega) (by have h1 := hcm.2.1;unfold A50 at h1;unfold i64;omega)) (⟨stays.box (Eq.refl 8),trivial⟩) rfl rfl) Z<|nA<|lmP Z<|lf 3 ty.F29_3 Z<|loI ty.kd3 Z<|lf 4 ty.F29_4 Z<|loI ty.kd3 Z<|lq (rd (x := vI _ _) (rd_un rfl rfl (fits_i64 (by have h2 := es.amt;unfold A50 at *;unfold i64;omega))) rfl) ?_
       refine lst (z5a Tryz.func114 (smove_e _ ({ x with circles := x.circles ++ [⟨e.key,e.ch,e.to,e.amt,e.fee⟩],chans := x.chans.set i { c with loc := c.loc + -addV e.amt e.fee,remote := c.remote + 0 } }) _ _ _ _ _ ((by rw [List.length_set];exact hm)) j d ((chanAt_set (c' := { c with loc := c.loc + -addV e.amt e.fee,remote := c.remote + 0 }) hc rfl).trans hj) (set_get hd hij _) (by have h1 := hdm.1;unfold A50 at h1;unfold i64;omega) (by have h1 := hdm.2.1;have h2 := es.amt;unfold A50 at *;unfold i64;omega)) (⟨stays.box (Eq.refl 8),trivial⟩) rfl rfl) Z<|nG ?_
       refine AW.obj 1 (AO.arr 40 7 (rowsOf encChan (updC (updC x.chans e.ch fun c => { c with loc := c.loc - addV e.amt e.fee }) e.to fun c => { c with remote := c.remote - e.amt }))) (congrArg (fun l => AO.arr 40 7 (rowsOf encChan l)) ((by simp only [Int.add_zero,Int.sub_eq_add_neg] : _ = ((x.chans.set i { c with loc := c.loc - addV e.amt e.fee }).set j { d with remote := d.remote - e.amt })).trans (set_two' fi.ids hc hd hid hjd hne (fun c => { c with loc := c.loc - addV e.amt e.fee }) (fun d => { d with remote := d.remote - e.amt }) (fun _ => rfl)))) ?_
       refine sL<|lmP Z<|lf 2 ty.F29_2 Z<|loI ty.kd3 Z<|lmI Z<|lq (rd (x := vI _ _) (rd_un rfl rfl (fits_i64 (by have h2 : A50 (addV e.amt e.fee) := addV_A50 _ _;unfold A50 at *;unfold i64;omega))) rfl) ?_
       refine lst (z5a Tryz.func53 (sline_e _ _ _ _ _ _ _ _ _ _ _ _ _ _ ([]) 0 (LG.nil) (by decide) _ _ _ (Fresh.nil _ _) (rangeA_neg (addV_A50 _ _))) (⟨stays.box (Eq.refl 8),trivial⟩) rfl rfl) Z<|nG<|aL<|lmP Z<|lf 2 ty.F29_2 Z<|loI ty.kd3 Z<|lmI rfl ?_
       refine lst (z5a Tryz.func53 (sline_e _ _ _ _ _ _ _ _ _ _ _ _ _ _ (addL [] 6 e.ch (-addV e.amt e.fee)) 1 (LG.nil.add (rangeA_neg (addV_A50 _ _))) (by decide) _ _ _ ((Fresh.nil _ _).add (.inl (by decide))) (rangeA_of (addV_A50 _ _))) (⟨stays.box (Eq.refl 8),trivial⟩) rfl rfl) Z<|lN ?_
       rw [lauR_yes hy0]
       unfold lauY
       refine end_go ?_ ⟨(Eq.trans (b := sBox g x.tick x.next x.wallet _) rfl (congrArg (sBox g x.tick x.next x.wallet) (by rw [hA] at hy0;exact hy0))),rfl,rfl,rfl,rfl,trivial⟩
       rfl

def zeroH : Htlc := ⟨0,0,0,0,0,false,0⟩
def zeroI : Circle := ⟨0,0,0,0,0⟩
def fndH (l : List Htlc) (key : Int) : Htlc := (l.find? fun c => c.key == key).getD zeroH
def fndI (l : List Circle) (key : Int) : Circle := (l.find? fun c => c.key == key).getD zeroI
abbrev hBox (h : Htlc) : AO := .box 68 none [int h.key,int h.inn,int h.out,int h.amtIn,int h.amtOut,boo h.kept,int h.age]
abbrev iBox (h : Circle) : AO := .box 78 none [int h.key,int h.frm,int h.to,int h.amt,int h.fee]
theorem find_take {α : Type} {g : α → Int} {l : List α} {key : Int} (hnd : l.Pairwise fun a b => g a ≠ g b) {k : Nat} (hk : k < l.length) : (l.take (k + 1)).find? (fun c => g c == key) = if g l[k] = key then some l[k] else (l.take k).find? (fun c => g c == key) := by
  rw [List.take_succ_eq_append_getElem hk,List.find?_append]
  by_cases q : g l[k] = key
  · rw [if_pos q]
    have : (l.take k).find? (fun c => g c == key) = none := by
      rw [List.find?_eq_none]
      intro x hx
      obtain ⟨j,hj,rfl⟩ := List.getElem_of_mem hx
      rw [List.length_take] at hj
      have h1 := List.pairwise_iff_getElem.1 hnd j k (by omega) hk (by omega)
      rw [List.getElem_take,← q]
      simpa using h1
    rw [this];simp [q]
  · rw [if_neg q];simp [q]
theorem fndH_take {l : List Htlc} {key : Int} (hnd : l.Pairwise fun a b => a.key ≠ b.key) {k : Nat} (hk : k < l.length) : fndH (l.take (k + 1)) key = if l[k].key = key then l[k] else fndH (l.take k) key := by
  unfold fndH
  rw [find_take (g := fun c => c.key) hnd hk]
  split <;> rfl
theorem fndI_take {l : List Circle} {key : Int} (hnd : l.Pairwise fun a b => a.key ≠ b.key) {k : Nat} (hk : k < l.length) : fndI (l.take (k + 1)) key = if l[k].key = key then l[k] else fndI (l.take k) key := by
  unfold fndI
  rw [find_take (g := fun c => c.key) hnd hk]
  split <;> rfl
theorem delH_take {l : List Htlc} {key : Int} {k : Nat} (hk : k < l.length) : delH (l.take (k + 1)) key = delH (l.take k) key ++ (if l[k].key = key then [] else [l[k]]) := by
  unfold delH
  rw [List.take_succ_eq_append_getElem hk,List.filter_append]
  by_cases q : l[k].key = key <;> simp [q]
theorem delI_take {l : List Circle} {key : Int} {k : Nat} (hk : k < l.length) : delI (l.take (k + 1)) key = delI (l.take k) key ++ (if l[k].key = key then [] else [l[k]]) := by
  unfold delI
  rw [List.take_succ_eq_append_getElem hk,List.filter_append]
  by_cases q : l[k].key = key <;> simp [q]
theorem delH_len {l : List Htlc} {key : Int} : (delH l key).length ≤ l.length := List.length_filter_le _ _
theorem delI_len {l : List Circle} {key : Int} : (delI l key).length ≤ l.length := List.length_filter_le _ _
theorem fndH_no {l : List Htlc} {key : Int} (h0 : ∀ h ∈ l,h.key ≠ 0) (h : (fndH l key).key = 0) : l.find? (fun c => c.key == key) = none := by
  rcases at_find (fun c : Htlc => c.key == key) l with ⟨_,q⟩ | ⟨i,c,_,q1,q2,_⟩
  · exact q
  · unfold fndH at h
    rw [q2] at h
    exact absurd h (h0 c (mem_of_get q1))
theorem fndH_yes {l : List Htlc} {key : Int} (h : ¬ (fndH l key).key = 0) : ∃ i : Nat,l[i]? = some (fndH l key) ∧ l.find? (fun c => c.key == key) = some (fndH l key) ∧ (fndH l key).key = key := by
  rcases at_find (fun c : Htlc => c.key == key) l with ⟨_,q⟩ | ⟨i,c,_,q1,q2,q3⟩
  · unfold fndH at h
    rw [q] at h
    exact absurd rfl h
  · have e : fndH l key = c := by unfold fndH;rw [q2];rfl
    rw [e]
    exact ⟨i,q1,q2,by simpa using q3⟩
theorem fndI_no {l : List Circle} {key : Int} (h0 : ∀ h ∈ l,h.key ≠ 0) (h : (fndI l key).key = 0) : l.find? (fun c => c.key == key) = none := by
  rcases at_find (fun c : Circle => c.key == key) l with ⟨_,q⟩ | ⟨i,c,_,q1,q2,_⟩
  · exact q
  · unfold fndI at h
    rw [q2] at h
    exact absurd h (h0 c (mem_of_get q1))
theorem fndI_yes {l : List Circle} {key : Int} (h : ¬ (fndI l key).key = 0) : ∃ i : Nat,l[i]? = some (fndI l key) ∧ l.find? (fun c => c.key == key) = some (fndI l key) ∧ (fndI l key).key = key := by
  rcases at_find (fun c : Circle => c.key == key) l with ⟨_,q⟩ | ⟨i,c,_,q1,q2,q3⟩
  · unfold fndI at h
    rw [q] at h
    exact absurd rfl h
  · have e : fndI l key = c := by unfold fndI;rw [q2];rfl
    rw [e]
    exact ⟨i,q1,q2,by simpa using q3⟩
def setK (x : Book) (key : Int) (good : Bool) : WR := match x.htlcs.find? (fun c => c.key == key) with
  | some h => setY x good h
  | none => ⟨x,[],15⟩
def landK (x : Book) (key : Int) (good : Bool) : WR := match x.circles.find? (fun c => c.key == key) with
  | some h => landY x good h
  | none => ⟨x,[],15⟩
theorem setK_eq (x : Book) (e : Event) : setK x e.key (decide (e.kind = 6)) = setR x e := rfl
theorem landK_eq (x : Book) (e : Event) : landK x e.key (decide (e.kind = 10)) = landR x e := rfl
theorem setK_none {x : Book} {key : Int} {good : Bool} (h : x.htlcs.find? (fun c => c.key == key) = none) : setK x key good = ⟨x,[],15⟩ := by unfold setK;rw [h]
theorem setK_some {x : Book} {key : Int} {good : Bool} {c : Htlc} (h : x.htlcs.find? (fun c => c.key == key) = some c) : setK x key good = setY x good c := by unfold setK;rw [h]
theorem landK_none {x : Book} {key : Int} {good : Bool} (h : x.circles.find? (fun c => c.key == key) = none) : landK x key good = ⟨x,[],15⟩ := by unfold landK;rw [h]
theorem landK_some {x : Book} {key : Int} {good : Bool} {c : Circle} (h : x.circles.find? (fun c => c.key == key) = some c) : landK x key good = landY x good c := by unfold landK;rw [h]
theorem sset_e (g : Value) (x : Book) (key : Int) (good : Bool) (fi : BookFi x) (hk0 : ∀ h ∈ x.htlcs,h.key ≠ 0) (hle : ∀ h ∈ x.htlcs,h.amtOut ≤ h.amtIn) : GC Tryz.prog 58 [.ptr 0 0 0,int key,boo good] (sIn g x [] 0) (.tup []) (sOut g (setK x key good)) := by
 have sm := fi.sm
 have hm : x.chans.length ≤ 1000000000 := by have := sm.lc;omega
 have hlh := sm.lh
 have hli := sm.li

 refine GC.intro (rs := []) Tryz.func58 rfl Tryz.ntmps58 (Nat.le_of_ble_eq_true rfl) trivial ?_
 intro L O w0
 refine sL<|lst (zS 2011 [] ty.el24 ty.ze68 rfl (by simp)) Z<|laO Z<|nA<|lq (rd (x := .agg [vI _ _,vI _ _,vI _ _,vI _ _,vI _ _,vB false,vI _ _]) (rd_build rfl ty.sa68 rfl rfl rfl) rfl)<|lst (zA 2007 ty.ze68 rfl) Z<|lst (zB 2007 ty.co68 ty.inf68 rfl) Z<|nG<|aS<|sL<|lmP Z<|lc Z<|lf 0 ty.F91_0 Z<|lf 4 ty.F27_4 Z<|loO ty.kd24 Z<|lnI ty.sl24 Z<|lmI Z<|nG<|aB ?_
 refine aW [0,1,2,6,7,17,18] [0,1,2,3,4] (D := Nat) (fun k => [(19,int (k : Int))]) (fun k => [(2011,hAr (delH (x.htlcs.take k) key)),(2007,hBox (fndH (x.htlcs.take k) key))]) (fun k => k ≤ x.htlcs.length) (fun k => x.htlcs.length - k) (0) (Nat.zero_le _) ⟨rfl,trivial⟩ ⟨rfl,rfl,trivial⟩ ?_
 intro k hI
 refine sL<|lbB Z<|nG<|aS ?_
 refine AW.cond rfl ?_ ?_
 ·intro h1
  refine aK<|gT<|aS<|aB<|sL ?_
  have hk : k < x.htlcs.length := by simpa [length_rowsOf] using h1
  refine lq (rj k ty.el24 rfl (by rw [length_rowsOf];exact hk))<|lq (rd (x := .agg [vI _ _,vI _ _,vI _ _,vI _ _,vI _ _,vB _,vI _ _]) (rd_load_arr rfl ty.kd68 rfl rfl rfl (row_map hk) rfl) rfl)<|lst (zA 2009 ty.ze68 rfl) Z<|lT [0,1,2,6,7,9,17,18,19,22] [0,1,2,3,4,2007,2009,2011] ?_
  refine lst (zB 2009 ty.co68 ty.inf68 Z) Z<|nA<|lf 0 ty.F68_0 Z<|loI ty.kd3 Z<|lmI Z<|lbB Z<|nG ?_
  refine AW.cond rfl ?_ ?_
  ·intro h2
   refine aL<|loX (.agg [vI _ _,vI _ _,vI _ _,vI _ _,vI _ _,vB _,vI _ _]) ty.kd68 Z<|lst (zB 2007 ty.co68 ty.inf68 Z) Z<|lN<|gB<|gT<|aL<|lgI Z<|lmI Z<|nG ?_
   refine ⟨k + 1,hk,by omega,⟨(iq rfl),trivial⟩,⟨(congrArg hAr (by rw [delH_take hk,if_pos (by simpa using h2),List.append_nil])),(Eq.trans (b := hBox x.htlcs[k]) rfl (congrArg hBox (by rw [fndH_take fi.hks hk,if_pos (by simpa using h2)]))),trivial⟩,rfl,rfl⟩
  ·intro h2
   refine aL<|lmO Z<|loX (.agg [vI _ _,vI _ _,vI _ _,vI _ _,vI _ _,vB _,vI _ _]) ty.kd68 Z<|lst (zS 2030 (rowsOf encHtlc [x.htlcs[k]]) ty.el24 ty.ze68 rfl) Z<|lst (zP 2011 ty.el24 ty.ze68 ty.by68 rfl (Src.own rfl rfl) (by have := delH_len (l := x.htlcs.take k) (key := key);simp [rowsOf] at *;omega)) Z<|laO Z<|lN<|gB<|gT<|aL<|lgI Z<|lmI Z<|nG ?_
   refine ⟨k + 1,hk,by omega,⟨(iq rfl),trivial⟩,⟨(Eq.trans (b := AO.arr 68 7 (rowsOf encHtlc (delH (x.htlcs.take k) key ++ [x.htlcs[k]]))) (congrArg (AO.arr 68 7) (rowsOf_app encHtlc _ [_]).symm) (congrArg hAr (by rw [delH_take hk,if_neg (by simpa using h2)]))),(congrArg hBox (by rw [fndH_take fi.hks hk,if_neg (by simpa using h2)])),trivial⟩,rfl,rfl⟩
 ·intro h1
  refine aE<|eT<|eT<|eB<|gT<|aS<|aS ?_
  have hke : k = x.htlcs.length := by have h := h1;simp only [length_rowsOf,decide_eq_false_iff_not] at h;omega
  refine AW.obj 2011 (hAr (delH x.htlcs key)) (congrArg hAr (by rw [hke,List.take_length])) ?_
  refine AW.obj 2007 (hBox (fndH x.htlcs key)) (congrArg hBox (by rw [hke,List.take_length])) ?_
  refine aL<|lmP Z<|lf 0 ty.F68_0 Z<|loI ty.kd3 Z<|lbB Z ?_
  refine lst (z5a Tryz.func51 (scode_e _ _ _ _ _ _ _ _ _ _ _ _ _ _ _ _ _ _ _ ) (⟨stays.box (Eq.refl 8),trivial⟩) rfl rfl) Z<|lT [0,2,6,7,37] [0,1,2,3,4,2007,2011] ?_
  refine nG ?_
  refine AW.cond rfl ?_ ?_
  ·intro h3
   refine aR<|rT ?_
   have hz : (fndH x.htlcs key).key = 0 := by
     have h := h3
     rcases Classical.em ((fndH x.htlcs key).key = 0) with q | q
     ·exact q
     ·rw [decide_eq_false q] at h
      simp [failC] at h
   rw [setK_none (fndH_no hk0 hz)]
   refine end_ret ?_ ⟨Eq.trans (b := sBox g x.tick x.next x.wallet _) rfl (congrArg (sBox g x.tick x.next x.wallet) (by rw [decide_eq_true hz];rfl)),rfl,rfl,rfl,rfl,trivial⟩
   rfl
  ·intro h3
   refine aK<|gT<|aS ?_
   have hnz : ¬ (fndH x.htlcs key).key = 0 := fun q => by
     have h := h3
     rw [decide_eq_true q] at h
     simp [failC] at h
   obtain ⟨i,hh,hf,hkk⟩ := fndH_yes hnz
   generalize fndH x.htlcs key = h at *
   subst hkk
   have hhm := sm.htlcs h (mem_of_get hh)
   obtain ⟨ha,hb,hab⟩ := fi.hch h (mem_of_get hh)
   obtain ⟨a,c,hac,hc,hao,hcid⟩ := chan_there ha
   obtain ⟨b,d,hbd,hd,hbo,hdid⟩ := chan_there hb
   have hcm := sm.chans c (mem_of_get hc)
   have hdm := sm.chans d (mem_of_get hd)
   have hne : a ≠ b := idx_ne hc hd (by rw [hcid,hdid];exact hab)
   refine AW.obj 0 (sBox g x.tick x.next x.wallet 0) (Eq.trans (b := sBox g x.tick x.next x.wallet _) rfl (congrArg (sBox g x.tick x.next x.wallet) (by rw [decide_eq_false hnz];rfl))) ?_
   refine aL<|lmP Z<|lmO Z<|lc Z<|lf 0 ty.F91_0 Z<|lf 4 ty.F27_4 Z<|lst (zB 0 ty.co24 ty.inf24 Z) Z<|nG<|aS ?_
   refine AW.swap 2011 2 ?_
   refine aT [0,2,7] [0,1,2,3,4,2007] ?_
   refine aF []<|pq 0 (qmP Z)<|pq 1 (qc Z)<|pq 2 (qf 0 ty.F91_0 Z)<|sq 3 (roX (.agg [vI _ _,vI _ _,vI _ _,.own _,.own _,.own _]) ty.kd27 Z)<|vq 4 (rf 1 ty.F68_1 Z)<|vq 5 (roI ty.kd3 Z)<|vst 6 Z (zL Tryz.func55 (sAt_e ({ x with htlcs := delH x.htlcs h.key }) _ hm) Z) (.inr Z)<|fsN 49 (a : Int) Z hac<|vq 7 (raI Z)<|fD<|gT<|aS<|sL<|lmB Z<|nG ?_
   refine AW.cond rfl ?_ ?_
   ·intro h4
    refine sL<|lmP Z<|lf 1 ty.F68_1 Z<|loI ty.kd3 Z<|lf 3 ty.F68_3 Z<|loI ty.kd3 Z ?_
    refine lst (z5a Tryz.func114 (smove_e _ ({ x with htlcs := delH x.htlcs h.key }) _ _ _ _ _ (hm) a c (hac) (hc) (by have h1 := hcm.1;have h2 := hcm.2.1;have h3 := hdm.1;have h4 := hdm.2.1;have h5 := hhm.1;have h6 := hhm.2.1;unfold A50 at *;unfold i64;omega) (by have h1 := hcm.1;have h2 := hcm.2.1;have h3 := hdm.1;have h4 := hdm.2.1;have h5 := hhm.1;have h6 := hhm.2.1;unfold A50 at *;unfold i64;omega)) (⟨stays.box (Eq.refl 8),trivial⟩) rfl rfl) Z<|lT [0,7,10] [0,1,2,3,4,2007] ?_
    refine nA<|lmP Z<|lf 2 ty.F68_2 Z<|loI ty.kd3 Z<|lf 4 ty.F68_4 Z<|loI ty.kd3 Z ?_
    refine lst (z5a Tryz.func114 (smove_e _ ({ x with htlcs := delH x.htlcs h.key,chans := x.chans.set a { c with loc := c.loc + h.amtIn,remote := c.remote + 0 } }) _ _ _ _ _ ((by rw [List.length_set];exact hm)) b d ((chanAt_set (c' := { c with loc := c.loc + h.amtIn,remote := c.remote + 0 }) hc rfl).trans hbd) (set_get hd hne _) (by have h1 := hcm.1;have h2 := hcm.2.1;have h3 := hdm.1;have h4 := hdm.2.1;have h5 := hhm.1;have h6 := hhm.2.1;unfold A50 at *;unfold i64;omega) (by have h1 := hcm.1;have h2 := hcm.2.1;have h3 := hdm.1;have h4 := hdm.2.1;have h5 := hhm.1;have h6 := hhm.2.1;unfold A50 at *;unfold i64;omega)) (⟨stays.box (Eq.refl 8),trivial⟩) rfl rfl) Z<|nG<|aS<|aF [18]<|pq 0 (qmP rfl)<|pq 1 (qc rfl)<|pq 2 (qf 0 ty.F91_0 rfl)<|pq 3 (qf 3 ty.F27_3 rfl)<|sq 4 (roO ty.kd23 rfl)<|pq 5 (qmX (vI _ _) rfl)<|pq 6 (qmP rfl)<|pq 7 (qc rfl)<|pq 8 (qf 0 ty.F91_0 rfl)<|pq 9 (qf 3 ty.F27_3 rfl)<|sq 10 (roO ty.kd23 rfl)<|vq 11 (rmI rfl)<|vq 12 (rj a ty.el23 rfl (by rw [length_rowsOf,List.length_set,List.length_set];exact (List.getElem?_eq_some_iff.1 hc).1))<|vq 13 (rf 6 ty.F40_6 rfl)<|vq 14 (rd (x := vI _ _) (rd_load_arr rfl ty.kd3 rfl rfl rfl (rows_some (set_get (set_get_eq hc { c with loc := c.loc + h.amtIn,remote := c.remote + 0 }) (Ne.symm hne) { d with loc := d.loc + 0,remote := d.remote + h.amtOut })) rfl) rfl)<|vst 15 rfl (zL Tryz.func115 (sscUp_e _) rfl) (.inr rfl)<|fT [0,7,67,68,78] [0,1,2,3,4,2007] ?_
    refine vq 16 (rj a ty.el23 rfl (by rw [length_rowsOf,List.length_set,List.length_set];exact (List.getElem?_eq_some_iff.1 hc).1))<|vq 17 (rf 6 ty.F40_6 rfl)<|vst 18 rfl (zQ 1 [.v (.int .i64 (scoreUp c.score))] ty.co3 ty.inf3 rfl (rows_some (set_get (set_get_eq hc { c with loc := c.loc + h.amtIn,remote := c.remote + 0 }) (Ne.symm hne) { d with loc := d.loc + 0,remote := d.remote + h.amtOut }))) (.inl rfl)<|fD<|gT ?_
    refine AW.obj 1 (AO.arr 40 7 (rowsOf encChan (updC (updC x.chans h.inn fun c => { c with loc := c.loc + h.amtIn,score := scoreUp c.score }) h.out fun c => { c with remote := c.remote + h.amtOut }))) (Eq.trans (b := AO.arr 40 7 ((rowsOf encChan ((x.chans.set a { c with loc := c.loc + h.amtIn,remote := c.remote + 0 }).set b { d with loc := d.loc + 0,remote := d.remote + h.amtOut })).set a ((encChan { c with loc := c.loc + h.amtIn,remote := c.remote + 0,score := scoreUp c.score }).map PV.v))) rfl (congrArg (AO.arr 40 7) (rows_set.trans (congrArg (rowsOf encChan) ((set_three hne).trans ((by simp only [Int.add_zero] : _ = (x.chans.set a { c with loc := c.loc + h.amtIn,score := scoreUp c.score }).set b { d with remote := d.remote + h.amtOut }).trans (set_two' fi.ids hc hd hcid hdid hab (fun c => { c with loc := c.loc + h.amtIn,score := scoreUp c.score }) (fun d => { d with remote := d.remote + h.amtOut }) (fun _ => rfl)))))))) ?_
    refine sL<|lmP Z<|lf 4 ty.F68_4 Z<|loI ty.kd3 Z<|lf 3 ty.F68_3 Z<|loI ty.kd3 Z ?_
    refine lhI rfl ⟨rfl,fits_i64 (by have h1 := hcm.1;have h2 := hcm.2.1;have h3 := hdm.1;have h4 := hdm.2.1;have h5 := hhm.1;have h6 := hhm.2.1;unfold A50 at *;unfold i64;omega)⟩ ?_
    refine lst (z5a Tryz.func53 (sline_e _ _ _ _ _ _ _ _ _ _ _ _ _ _ ([]) 0 (LG.nil) (by decide) _ _ _ (Fresh.nil _ _) (inB_true.2 (by have h5 := hhm.1;have h6 := hhm.2.1;have h7 := hhm.2.2.2.2;have h8 := hle h (mem_of_get hh);unfold A50 at *;omega))) (⟨stays.box (Eq.refl 8),trivial⟩) rfl rfl) Z<|nG<|aL<|lmP Z<|lf 1 ty.F68_1 Z<|loI ty.kd3 Z<|lf 3 ty.F68_3 Z<|loI ty.kd3 rfl ?_
    refine lst (z5a Tryz.func53 (sline_e _ _ _ _ _ _ _ _ _ _ _ _ _ _ (addL [] 3 0 (h.amtOut - h.amtIn)) 1 (LG.nil.add (inB_true.2 (by have h5 := hhm.1;have h6 := hhm.2.1;have h7 := hhm.2.2.2.2;have h8 := hle h (mem_of_get hh);unfold A50 at *;omega))) (by decide) _ _ _ ((Fresh.nil _ _).add (.inl (by decide))) (rangeA_of hhm.1)) (⟨stays.box (Eq.refl 8),trivial⟩) rfl rfl) Z<|lT [0,7] [0,1,2,3,4,2007] ?_
    refine nG<|aL<|lmP Z<|lf 2 ty.F68_2 Z<|loI ty.kd3 Z<|lf 4 ty.F68_4 Z<|loI ty.kd3 Z<|lq (rd (x := vI _ _) (rd_un rfl rfl (fits_i64 (by have h1 := hcm.1;have h2 := hcm.2.1;have h3 := hdm.1;have h4 := hdm.2.1;have h5 := hhm.1;have h6 := hhm.2.1;unfold A50 at *;unfold i64;omega))) rfl) ?_
    refine lst (z5a Tryz.func53 (sline_e _ _ _ _ _ _ _ _ _ _ _ _ _ _ (addL (addL [] 3 0 (h.amtOut - h.amtIn)) 6 h.inn h.amtIn) 2 ((LG.nil.add (inB_true.2 (by have h5 := hhm.1;have h6 := hhm.2.1;have h7 := hhm.2.2.2.2;have h8 := hle h (mem_of_get hh);unfold A50 at *;omega))).add (rangeA_of hhm.1)) (by decide) _ _ _ (((Fresh.nil _ _).add (.inl (by decide))).add (.inl (by decide))) (rangeA_neg hhm.2.1)) (⟨stays.box (Eq.refl 8),trivial⟩) rfl rfl) Z<|lN ?_
    rw [setK_some hf,show good = true from h4]
    unfold setY
    refine end_go ?_ ⟨rfl,rfl,rfl,rfl,rfl,trivial⟩
    rfl
   ·intro h4
    refine sL<|lmP Z<|lf 1 ty.F68_1 Z<|loI ty.kd3 Z<|lf 3 ty.F68_3 Z<|loI ty.kd3 Z ?_
    refine lst (z5a Tryz.func114 (smove_e _ ({ x with htlcs := delH x.htlcs h.key }) _ _ _ _ _ (hm) a c (hac) (hc) (by have h1 := hcm.1;have h2 := hcm.2.1;have h3 := hdm.1;have h4 := hdm.2.1;have h5 := hhm.1;have h6 := hhm.2.1;unfold A50 at *;unfold i64;omega) (by have h1 := hcm.1;have h2 := hcm.2.1;have h3 := hdm.1;have h4 := hdm.2.1;have h5 := hhm.1;have h6 := hhm.2.1;unfold A50 at *;unfold i64;omega)) (⟨stays.box (Eq.refl 8),trivial⟩) rfl rfl) Z<|nA<|lmP Z<|lf 2 ty.F68_2 Z<|loI ty.kd3 Z<|lf 4 ty.F68_4 Z<|loI ty.kd3 rfl ?_
    refine lst (z5a Tryz.func114 (smove_e _ ({ x with htlcs := delH x.htlcs h.key,chans := x.chans.set a { c with loc := c.loc + 0,remote := c.remote + h.amtIn } }) _ _ _ _ _ ((by rw [List.length_set];exact hm)) b d ((chanAt_set (c' := { c with loc := c.loc + 0,remote := c.remote + h.amtIn }) hc rfl).trans hbd) (set_get hd hne _) (by have h1 := hcm.1;have h2 := hcm.2.1;have h3 := hdm.1;have h4 := hdm.2.1;have h5 := hhm.1;have h6 := hhm.2.1;unfold A50 at *;unfold i64;omega) (by have h1 := hcm.1;have h2 := hcm.2.1;have h3 := hdm.1;have h4 := hdm.2.1;have h5 := hhm.1;have h6 := hhm.2.1;unfold A50 at *;unfold i64;omega)) (⟨stays.box (Eq.refl 8),trivial⟩) rfl rfl) Z<|lT [0,7,10] [0,1,2,3,4,2007] ?_
    refine nG<|aS<|aF [18]<|pq 0 (qmP rfl)<|pq 1 (qc rfl)<|pq 2 (qf 0 ty.F91_0 rfl)<|pq 3 (qf 3 ty.F27_3 rfl)<|sq 4 (roO ty.kd23 rfl)<|pq 5 (qmX (vI _ _) rfl)<|pq 6 (qmP rfl)<|pq 7 (qc rfl)<|pq 8 (qf 0 ty.F91_0 rfl)<|pq 9 (qf 3 ty.F27_3 rfl)<|sq 10 (roO ty.kd23 rfl)<|vq 11 (rmI rfl)<|vq 12 (rj a ty.el23 rfl (by rw [length_rowsOf,List.length_set,List.length_set];exact (List.getElem?_eq_some_iff.1 hc).1))<|vq 13 (rf 6 ty.F40_6 rfl)<|vq 14 (rd (x := vI _ _) (rd_load_arr rfl ty.kd3 rfl rfl rfl (rows_some (set_get (set_get_eq hc { c with loc := c.loc + 0,remote := c.remote + h.amtIn }) (Ne.symm hne) { d with loc := d.loc + h.amtOut,remote := d.remote + 0 })) rfl) rfl)<|vst 15 rfl (zL Tryz.func116 (sscDown_e _) rfl) (.inr rfl)<|fT [0,7,110,111,121] [0,1,2,3,4,2007] ?_
    refine vq 16 (rj a ty.el23 rfl (by rw [length_rowsOf,List.length_set,List.length_set];exact (List.getElem?_eq_some_iff.1 hc).1))<|vq 17 (rf 6 ty.F40_6 rfl)<|vst 18 rfl (zQ 1 [.v (.int .i64 (scoreDown c.score))] ty.co3 ty.inf3 rfl (rows_some (set_get (set_get_eq hc { c with loc := c.loc + 0,remote := c.remote + h.amtIn }) (Ne.symm hne) { d with loc := d.loc + h.amtOut,remote := d.remote + 0 }))) (.inl rfl)<|fD<|gT ?_
    refine AW.obj 1 (AO.arr 40 7 (rowsOf encChan (updC (updC x.chans h.inn fun c => { c with remote := c.remote + h.amtIn,score := scoreDown c.score }) h.out fun c => { c with loc := c.loc + h.amtOut }))) (Eq.trans (b := AO.arr 40 7 ((rowsOf encChan ((x.chans.set a { c with loc := c.loc + 0,remote := c.remote + h.amtIn }).set b { d with loc := d.loc + h.amtOut,remote := d.remote + 0 })).set a ((encChan { c with loc := c.loc + 0,remote := c.remote + h.amtIn,score := scoreDown c.score }).map PV.v))) rfl (congrArg (AO.arr 40 7) (rows_set.trans (congrArg (rowsOf encChan) ((set_three hne).trans ((by simp only [Int.add_zero] : _ = (x.chans.set a { c with remote := c.remote + h.amtIn,score := scoreDown c.score }).set b { d with loc := d.loc + h.amtOut }).trans (set_two' fi.ids hc hd hcid hdid hab (fun c => { c with remote := c.remote + h.amtIn,score := scoreDown c.score }) (fun d => { d with loc := d.loc + h.amtOut }) (fun _ => rfl)))))))) ?_
    refine aL<|lmP Z<|lf 2 ty.F68_2 Z<|loI ty.kd3 Z<|lf 4 ty.F68_4 Z<|loI ty.kd3 Z ?_
    refine lst (z5a Tryz.func53 (sline_e _ _ _ _ _ _ _ _ _ _ _ _ _ _ ([]) 0 (LG.nil) (by decide) _ _ _ (Fresh.nil _ _) (rangeA_of hhm.2.1)) (⟨stays.box (Eq.refl 8),trivial⟩) rfl rfl) Z<|nG<|aL<|lmP Z<|lf 2 ty.F68_2 Z<|loI ty.kd3 Z<|lf 4 ty.F68_4 Z<|loI ty.kd3 Z<|lq (rd (x := vI _ _) (rd_un rfl rfl (fits_i64 (by have h1 := hcm.1;have h2 := hcm.2.1;have h3 := hdm.1;have h4 := hdm.2.1;have h5 := hhm.1;have h6 := hhm.2.1;unfold A50 at *;unfold i64;omega))) rfl) ?_
    refine lst (z5a Tryz.func53 (sline_e _ _ _ _ _ _ _ _ _ _ _ _ _ _ (addL [] 6 h.out h.amtOut) 1 (LG.nil.add (rangeA_of hhm.2.1)) (by decide) _ _ _ ((Fresh.nil _ _).add (.inl (by decide))) (rangeA_neg hhm.2.1)) (⟨stays.box (Eq.refl 8),trivial⟩) rfl rfl) Z<|lT [] [0,1,2,3,4,2007] ?_
    refine lN ?_
    rw [setK_some hf,show good = false from h4]
    unfold setY
    refine end_go ?_ ⟨rfl,rfl,rfl,rfl,rfl,trivial⟩
    rfl
theorem sland_e (g : Value) (x : Book) (key : Int) (good : Bool) (fi : BookFi x) (hk0 : ∀ h ∈ x.circles,h.key ≠ 0) (hle : ∀ h ∈ x.circles,0 ≤ h.amt ∧ 0 ≤ h.fee ∧ h.amt + h.fee ≤ 1125899906842624) : GC Tryz.prog 61 [.ptr 0 0 0,int key,boo good] (sIn g x [] 0) (.tup []) (sOut g (landK x key good)) := by
 have sm := fi.sm
 have hm : x.chans.length ≤ 1000000000 := by have := sm.lc;omega
 have hlh := sm.lh
 have hli := sm.li

 refine GC.intro (rs := []) Tryz.func61 rfl Tryz.ntmps61 (Nat.le_of_ble_eq_true rfl) trivial ?_
 intro L O w0
 refine sL<|lst (zS 2011 [] ty.el25 ty.ze78 rfl (by simp)) Z<|laO Z<|nA<|lq (rd (x := .agg [vI _ _,vI _ _,vI _ _,vI _ _,vI _ _]) (rd_build rfl ty.sa78 rfl rfl rfl) rfl)<|lst (zA 2007 ty.ze78 rfl) Z<|lst (zB 2007 ty.co78 ty.inf78 rfl) Z<|nG<|aS<|sL<|lmP Z<|lc Z<|lf 0 ty.F91_0 Z<|lf 5 ty.F27_5 Z<|loO ty.kd25 Z<|lnI ty.sl25 Z<|lmI Z<|nG<|aB ?_
 refine aW [0,1,2,6,7,17,18] [0,1,2,3,4] (D := Nat) (fun k => [(19,int (k : Int))]) (fun k => [(2011,iAr (delI (x.circles.take k) key)),(2007,iBox (fndI (x.circles.take k) key))]) (fun k => k ≤ x.circles.length) (fun k => x.circles.length - k) (0) (Nat.zero_le _) ⟨rfl,trivial⟩ ⟨rfl,rfl,trivial⟩ ?_
 intro k hI
 refine sL<|lbB Z<|nG<|aS ?_
 refine AW.cond rfl ?_ ?_
 ·intro h1
  refine aK<|gT<|aS<|aB<|sL ?_
  have hk : k < x.circles.length := by simpa [length_rowsOf] using h1
  refine lq (rj k ty.el25 rfl (by rw [length_rowsOf];exact hk))<|lq (rd (x := .agg [vI _ _,vI _ _,vI _ _,vI _ _,vI _ _]) (rd_load_arr rfl ty.kd78 rfl rfl rfl (row_map hk) rfl) rfl)<|lst (zA 2009 ty.ze78 rfl) Z<|lT [0,1,2,6,7,9,17,18,19,22] [0,1,2,3,4,2007,2009,2011] ?_
  refine lst (zB 2009 ty.co78 ty.inf78 Z) Z<|nA<|lf 0 ty.F78_0 Z<|loI ty.kd3 Z<|lmI Z<|lbB Z<|nG ?_
  refine AW.cond rfl ?_ ?_
  ·intro h2
   refine aL<|loX (.agg [vI _ _,vI _ _,vI _ _,vI _ _,vI _ _]) ty.kd78 Z<|lst (zB 2007 ty.co78 ty.inf78 Z) Z<|lN<|gB<|gT<|aL<|lgI Z<|lmI Z<|nG ?_
   refine ⟨k + 1,hk,by omega,⟨(iq rfl),trivial⟩,⟨(congrArg iAr (by rw [delI_take hk,if_pos (by simpa using h2),List.append_nil])),(Eq.trans (b := iBox x.circles[k]) rfl (congrArg iBox (by rw [fndI_take fi.iks hk,if_pos (by simpa using h2)]))),trivial⟩,rfl,rfl⟩
  ·intro h2
   refine aL<|lmO Z<|loX (.agg [vI _ _,vI _ _,vI _ _,vI _ _,vI _ _]) ty.kd78 Z<|lst (zS 2030 (rowsOf encCircle [x.circles[k]]) ty.el25 ty.ze78 rfl) Z<|lst (zP 2011 ty.el25 ty.ze78 ty.by78 rfl (Src.own rfl rfl) (by have := delI_len (l := x.circles.take k) (key := key);simp [rowsOf] at *;omega)) Z<|laO Z<|lN<|gB<|gT<|aL<|lgI Z<|lmI Z<|nG ?_
   refine ⟨k + 1,hk,by omega,⟨(iq rfl),trivial⟩,⟨(Eq.trans (b := AO.arr 78 5 (rowsOf encCircle (delI (x.circles.take k) key ++ [x.circles[k]]))) (congrArg (AO.arr 78 5) (rowsOf_app encCircle _ [_]).symm) (congrArg iAr (by rw [delI_take hk,if_neg (by simpa using h2)]))),(congrArg iBox (by rw [fndI_take fi.iks hk,if_neg (by simpa using h2)])),trivial⟩,rfl,rfl⟩
 ·intro h1
  refine aE<|eT<|eT<|eB<|gT<|aS<|aS ?_
  have hke : k = x.circles.length := by have h := h1;simp only [length_rowsOf,decide_eq_false_iff_not] at h;omega
  refine AW.obj 2011 (iAr (delI x.circles key)) (congrArg iAr (by rw [hke,List.take_length])) ?_
  refine AW.obj 2007 (iBox (fndI x.circles key)) (congrArg iBox (by rw [hke,List.take_length])) ?_
  refine aL<|lmP Z<|lf 0 ty.F78_0 Z<|loI ty.kd3 Z<|lbB Z ?_
  refine lst (z5a Tryz.func51 (scode_e _ _ _ _ _ _ _ _ _ _ _ _ _ _ _ _ _ _ _ ) (⟨stays.box (Eq.refl 8),trivial⟩) rfl rfl) Z<|lT [0,2,6,7,37] [0,1,2,3,4,2007,2011] ?_
  refine nG ?_
  refine AW.cond rfl ?_ ?_
  ·intro h3
   refine aR<|rT ?_
   have hz : (fndI x.circles key).key = 0 := by
     have h := h3
     rcases Classical.em ((fndI x.circles key).key = 0) with q | q
     ·exact q
     ·rw [decide_eq_false q] at h
      simp [failC] at h
   rw [landK_none (fndI_no hk0 hz)]
   refine end_ret ?_ ⟨Eq.trans (b := sBox g x.tick x.next x.wallet _) rfl (congrArg (sBox g x.tick x.next x.wallet) (by rw [decide_eq_true hz];rfl)),rfl,rfl,rfl,rfl,trivial⟩
   rfl
  ·intro h3
   refine aK<|gT<|aS ?_
   have hnz : ¬ (fndI x.circles key).key = 0 := fun q => by
     have h := h3
     rw [decide_eq_true q] at h
     simp [failC] at h
   obtain ⟨i,hh,hf,hkk⟩ := fndI_yes hnz
   generalize fndI x.circles key = h at *
   subst hkk
   have hhm := sm.circles h (mem_of_get hh)
   obtain ⟨ha,hb,hab⟩ := fi.ich h (mem_of_get hh)
   obtain ⟨a,c,hac,hc,hao,hcid⟩ := chan_there ha
   obtain ⟨b,d,hbd,hd,hbo,hdid⟩ := chan_there hb
   have hcm := sm.chans c (mem_of_get hc)
   have hdm := sm.chans d (mem_of_get hd)
   have hne : a ≠ b := idx_ne hc hd (by rw [hcid,hdid];exact hab)
   refine AW.obj 0 (sBox g x.tick x.next x.wallet 0) (Eq.trans (b := sBox g x.tick x.next x.wallet _) rfl (congrArg (sBox g x.tick x.next x.wallet) (by rw [decide_eq_false hnz];rfl))) ?_
   refine aL<|lmP Z<|lmO Z<|lc Z<|lf 0 ty.F91_0 Z<|lf 5 ty.F27_5 Z<|lst (zB 0 ty.co25 ty.inf25 Z) Z<|nG<|aS ?_
   refine AW.swap 2011 3 ?_
   refine aT [0,2,7] [0,1,2,3,4,2007] ?_
   refine aL<|lf 3 ty.F78_3 Z<|loI ty.kd3 Z<|lf 4 ty.F78_4 Z<|loI ty.kd3 Z ?_
   refine lhI rfl ⟨rfl,fits_i64 (by have h9 := hle h (mem_of_get hh);unfold i64;omega)⟩<|laI Z<|nG<|aS<|sL<|lmB Z<|nG ?_
   refine AW.cond rfl ?_ ?_
   ·intro h4
    refine sL<|lmP Z<|lf 1 ty.F78_1 Z<|loI ty.kd3 Z<|lmI Z ?_
    refine lst (z5a Tryz.func114 (smove_e _ ({ x with circles := delI x.circles h.key }) _ _ _ _ _ (hm) a c (hac) (hc) (by have h1 := hcm.1;have h2 := hcm.2.1;have h3 := hdm.1;have h4 := hdm.2.1;have h5 := hhm.1;have h6 := hhm.2;unfold A50 at *;unfold i64;omega) (by have h1 := hcm.1;have h2 := hcm.2.1;have h3 := hdm.1;have h4 := hdm.2.1;have h5 := hhm.1;have h6 := hhm.2;unfold A50 at *;unfold i64;omega)) (⟨stays.box (Eq.refl 8),trivial⟩) rfl rfl) Z<|nA<|lmP Z<|lf 2 ty.F78_2 Z<|loI ty.kd3 Z<|lf 3 ty.F78_3 Z<|loI ty.kd3 rfl ?_
    refine lst (z5a Tryz.func114 (smove_e _ ({ x with circles := delI x.circles h.key,chans := x.chans.set a { c with loc := c.loc + 0,remote := c.remote + (h.amt + h.fee) } }) _ _ _ _ _ ((by rw [List.length_set];exact hm)) b d ((chanAt_set (c' := { c with loc := c.loc + 0,remote := c.remote + (h.amt + h.fee) }) hc rfl).trans hbd) (set_get hd hne _) (by have h1 := hcm.1;have h2 := hcm.2.1;have h3 := hdm.1;have h4 := hdm.2.1;have h5 := hhm.1;have h6 := hhm.2;unfold A50 at *;unfold i64;omega) (by have h1 := hcm.1;have h2 := hcm.2.1;have h3 := hdm.1;have h4 := hdm.2.1;have h5 := hhm.1;have h6 := hhm.2;unfold A50 at *;unfold i64;omega)) (⟨stays.box (Eq.refl 8),trivial⟩) rfl rfl) Z<|lT [0,7,10] [0,1,2,3,4,2007] ?_
    refine nG ?_
    refine AW.obj 1 (AO.arr 40 7 (rowsOf encChan (updC (updC x.chans h.frm fun c => { c with remote := c.remote + (h.amt + h.fee) }) h.to fun c => { c with loc := c.loc + h.amt }))) (congrArg (fun l => AO.arr 40 7 (rowsOf encChan l)) ((by simp only [Int.add_zero] : _ = (x.chans.set a { c with remote := c.remote + (h.amt + h.fee) }).set b { d with loc := d.loc + h.amt }).trans (set_two' fi.ids hc hd hcid hdid hab (fun c => { c with remote := c.remote + (h.amt + h.fee) }) (fun d => { d with loc := d.loc + h.amt }) (fun _ => rfl)))) ?_
    refine sL<|lmP Z<|lf 4 ty.F78_4 Z<|loI ty.kd3 Z ?_
    refine lst (z5a Tryz.func53 (sline_e _ _ _ _ _ _ _ _ _ _ _ _ _ _ ([]) 0 (LG.nil) (by decide) _ _ _ (Fresh.nil _ _) (inB_true.2 (by have h9 := hle h (mem_of_get hh);omega))) (⟨stays.box (Eq.refl 8),trivial⟩) rfl rfl) Z<|nG<|aL<|lmP Z<|lf 2 ty.F78_2 Z<|loI ty.kd3 Z<|lf 3 ty.F78_3 Z<|loI ty.kd3 rfl ?_
    refine lst (z5a Tryz.func53 (sline_e _ _ _ _ _ _ _ _ _ _ _ _ _ _ (addL [] 4 0 h.fee) 1 (LG.nil.add (inB_true.2 (by have h9 := hle h (mem_of_get hh);omega))) (by decide) _ _ _ ((Fresh.nil _ _).add (.inl (by decide))) (inB_true.2 (by have h9 := hle h (mem_of_get hh);omega))) (⟨stays.box (Eq.refl 8),trivial⟩) rfl rfl) Z<|nG<|aL<|lmP Z<|lf 1 ty.F78_1 Z<|loI ty.kd3 Z<|lmI Z<|lq (rd (x := vI _ _) (rd_un rfl rfl (fits_i64 (by have h9 := hle h (mem_of_get hh);unfold i64;omega))) rfl)<|lsN 90 (-h.amt - h.fee) rfl (by omega) ?_
    refine lst (z5a Tryz.func53 (sline_e _ _ _ _ _ _ _ _ _ _ _ _ _ _ (addL (addL [] 4 0 h.fee) 6 h.to h.amt) 2 ((LG.nil.add (inB_true.2 (by have h9 := hle h (mem_of_get hh);omega))).add (inB_true.2 (by have h9 := hle h (mem_of_get hh);omega))) (by decide) _ _ _ (((Fresh.nil _ _).add (.inl (by decide))).add (.inl (by decide))) (inB_true.2 (by have h9 := hle h (mem_of_get hh);omega))) (⟨stays.box (Eq.refl 8),trivial⟩) rfl rfl) Z<|lT [] [0,1,2,3,4,2007] ?_
    refine lN ?_
    rw [landK_some hf,show good = true from h4]
    unfold landY
    refine end_go ?_ ⟨rfl,rfl,rfl,rfl,rfl,trivial⟩
    rfl
   ·intro h4
    refine sL<|lmP Z<|lf 1 ty.F78_1 Z<|loI ty.kd3 Z<|lmI Z ?_
    refine lst (z5a Tryz.func114 (smove_e _ ({ x with circles := delI x.circles h.key }) _ _ _ _ _ (hm) a c (hac) (hc) (by have h1 := hcm.1;have h2 := hcm.2.1;have h3 := hdm.1;have h4 := hdm.2.1;have h5 := hhm.1;have h6 := hhm.2;unfold A50 at *;unfold i64;omega) (by have h1 := hcm.1;have h2 := hcm.2.1;have h3 := hdm.1;have h4 := hdm.2.1;have h5 := hhm.1;have h6 := hhm.2;unfold A50 at *;unfold i64;omega)) (⟨stays.box (Eq.refl 8),trivial⟩) rfl rfl) Z<|nA<|lmP Z<|lf 2 ty.F78_2 Z<|loI ty.kd3 Z<|lf 3 ty.F78_3 Z<|loI ty.kd3 rfl ?_
    refine lst (z5a Tryz.func114 (smove_e _ ({ x with circles := delI x.circles h.key,chans := x.chans.set a { c with loc := c.loc + (h.amt + h.fee),remote := c.remote + 0 } }) _ _ _ _ _ ((by rw [List.length_set];exact hm)) b d ((chanAt_set (c' := { c with loc := c.loc + (h.amt + h.fee),remote := c.remote + 0 }) hc rfl).trans hbd) (set_get hd hne _) (by have h1 := hcm.1;have h2 := hcm.2.1;have h3 := hdm.1;have h4 := hdm.2.1;have h5 := hhm.1;have h6 := hhm.2;unfold A50 at *;unfold i64;omega) (by have h1 := hcm.1;have h2 := hcm.2.1;have h3 := hdm.1;have h4 := hdm.2.1;have h5 := hhm.1;have h6 := hhm.2;unfold A50 at *;unfold i64;omega)) (⟨stays.box (Eq.refl 8),trivial⟩) rfl rfl) Z<|nG ?_
    refine AW.obj 1 (AO.arr 40 7 (rowsOf encChan (updC (updC x.chans h.frm fun c => { c with loc := c.loc + (h.amt + h.fee) }) h.to fun c => { c with remote := c.remote + h.amt }))) (congrArg (fun l => AO.arr 40 7 (rowsOf encChan l)) ((by simp only [Int.add_zero] : _ = (x.chans.set a { c with loc := c.loc + (h.amt + h.fee) }).set b { d with remote := d.remote + h.amt }).trans (set_two' fi.ids hc hd hcid hdid hab (fun c => { c with loc := c.loc + (h.amt + h.fee) }) (fun d => { d with remote := d.remote + h.amt }) (fun _ => rfl)))) ?_
    refine aL<|lmP Z<|lf 1 ty.F78_1 Z<|loI ty.kd3 Z<|lmI Z ?_
    refine lst (z5a Tryz.func53 (sline_e _ _ _ _ _ _ _ _ _ _ _ _ _ _ ([]) 0 (LG.nil) (by decide) _ _ _ (Fresh.nil _ _) (inB_true.2 (by have h9 := hle h (mem_of_get hh);omega))) (⟨stays.box (Eq.refl 8),trivial⟩) rfl rfl) Z<|lT [0,7,10] [0,1,2,3,4,2007] ?_
    refine nG<|aL<|lmP Z<|lf 1 ty.F78_1 Z<|loI ty.kd3 Z<|lmI Z<|lq (rd (x := vI _ _) (rd_un rfl rfl (fits_i64 (by have h9 := hle h (mem_of_get hh);unfold i64;omega))) rfl)<|lsN 90 (-h.amt - h.fee) rfl (by omega) ?_
    refine lst (z5a Tryz.func53 (sline_e _ _ _ _ _ _ _ _ _ _ _ _ _ _ (addL [] 6 h.frm (h.amt + h.fee)) 1 (LG.nil.add (inB_true.2 (by have h9 := hle h (mem_of_get hh);omega))) (by decide) _ _ _ ((Fresh.nil _ _).add (.inl (by decide))) (inB_true.2 (by have h9 := hle h (mem_of_get hh);omega))) (⟨stays.box (Eq.refl 8),trivial⟩) rfl rfl) Z<|lN ?_
    rw [landK_some hf,show good = false from h4]
    unfold landY
    refine end_go ?_ ⟨rfl,rfl,rfl,rfl,rfl,trivial⟩
    rfl
theorem stick_e (g : Value) (x : Book) (sm : BookSm x) (ht : x.tick ≠ 1125899906842624) : GC Tryz.prog 59 [.ptr 0 0 0] (sIn g x [] 0) (.tup []) (sOut g (tickR x)) := by
 have bh := sm.lh
 have bc := sm.lc
 refine GC.intro (rs := []) Tryz.func59 rfl Tryz.ntmps59 (Nat.le_of_ble_eq_true rfl) trivial ?_
 intro L O w0
 refine aS<|sL<|lmP Z<|lmP Z<|lc Z<|lf 0 ty.F91_0 Z<|lf 0 ty.F27_0 Z<|loI ty.kd3 Z<|lbB Z<|lsB 10 false rfl (by simpa using ht) ?_
 refine lst (z5a Tryz.func51 (scode_e _ _ _ _ _ _ _ _ _ _ _ _ _ _ _ _ _ _ _ ) (⟨stays.box (Eq.refl 8),trivial⟩) rfl rfl) Z<|lsB 11 false rfl (by rfl)<|nG<|aN Z<|aK<|gT<|aS ?_
 refine AW.obj 0 (sBox g x.tick x.next x.wallet 0) rfl ?_
 refine aL<|lmP Z<|lc Z<|lf 0 ty.F91_0 Z<|lf 0 ty.F27_0 Z<|loI ty.kd3 Z ?_
 refine lhI rfl ⟨rfl,fits_i64 (by have := sm.tick;unfold A50 at this;unfold i64;omega)⟩<|lc Z<|lf 0 ty.F91_0 Z<|lf 0 ty.F27_0 Z<|lst (zB 0 ty.co3 ty.inf3 rfl) Z<|lT [0] [0,1,2,3,4] ?_
 refine nG<|aS<|sL<|lmP Z<|lc Z<|lf 0 ty.F91_0 Z<|lf 4 ty.F27_4 Z<|loO ty.kd24 Z<|lnI ty.sl24 Z<|lmI Z<|nG<|aB ?_
 refine aW [0,26] [0,1,3,4] (D := Nat) (fun k => [(27,int (k : Int))]) (fun k => [(2,hAr (mapTo ageH k x.htlcs))]) (fun k => k ≤ x.htlcs.length) (fun k => x.htlcs.length - k) (0) (Nat.zero_le _) ⟨rfl,trivial⟩ ⟨(congrArg hAr (mapTo_zero ageH x.htlcs).symm),trivial⟩ ?_
 intro k hI
 refine sL<|lbB Z<|nG<|aS ?_
 refine AW.cond rfl ?_ ?_
 ·intro h1
  refine aK<|gT<|aS<|aB<|sL<|lmI Z<|laI Z<|nA<|lmP Z<|lc Z<|lf 0 ty.F91_0 Z<|lf 4 ty.F27_4 Z<|loO ty.kd24 Z<|lmI Z ?_
  have hk : k < x.htlcs.length := by simpa [length_rowsOf] using h1
  have hhm := sm.htlcs _ (List.getElem_mem hk)
  refine lq (rj k ty.el24 rfl (by rw [length_rowsOf,mapTo_len _ _ _ (Nat.le_of_lt hk)];exact hk))<|lf 6 ty.F68_6 Z<|lq (rd (x := vI _ _) (rd_load_arr rfl ty.kd3 rfl rfl rfl (rows_some (mapTo_get ageH hk)) rfl) rfl)<|lbB Z<|nG ?_
  refine AW.cond rfl ?_ ?_
  ·intro h2
   refine aL<|lmP Z<|lc Z<|lf 0 ty.F91_0 Z<|lf 4 ty.F27_4 Z<|loO ty.kd24 Z<|lmI Z<|lq (rj k ty.el24 rfl (by rw [length_rowsOf,mapTo_len _ _ _ (Nat.le_of_lt hk)];exact hk))<|lf 6 ty.F68_6 Z<|lq (rd (x := vI _ _) (rd_load_arr rfl ty.kd3 rfl rfl rfl (rows_some (mapTo_get ageH hk)) rfl) rfl) ?_
   refine lhI rfl ⟨rfl,fits_i64 (by have := hhm.2.2.1;have := hhm.2.2.2.1;unfold i64;omega)⟩<|lT [0,26,27,44,45,49] [0,1,2,3,4] ?_
   refine lq (rj k ty.el24 rfl (by rw [length_rowsOf,mapTo_len _ _ _ (Nat.le_of_lt hk)];exact hk))<|lf 6 ty.F68_6 Z<|lst (zQ 2 [.v (.int .i64 (x.htlcs[k].age + 1))] ty.co3 ty.inf3 rfl (rows_some (mapTo_get ageH hk))) Z<|lN<|gB<|gT ?_
   refine AW.obj 2 (hAr (mapTo ageH (k + 1) x.htlcs)) (Eq.trans (b := AO.arr 68 7 ((rowsOf encHtlc (mapTo ageH k x.htlcs)).set k ((encHtlc { x.htlcs[k] with age := x.htlcs[k].age + 1 }).map PV.v))) rfl (congrArg (AO.arr 68 7) (rows_set.trans (congrArg (rowsOf encHtlc) (by rw [← mapTo_set _ hk];unfold ageH;rw [show min (x.htlcs[k].age + 1) 1125899906842624 = x.htlcs[k].age + 1 by have h := h2;simp only [decide_eq_true_eq] at h;omega]))))) ?_
   refine aL<|lgI Z<|lmI Z<|nG ?_
   refine ⟨k + 1,hk,by omega,⟨(iq rfl),trivial⟩,⟨rfl,trivial⟩,rfl,rfl⟩
  ·intro h2
   refine aK<|gB<|gT<|aL<|lgI Z<|lmI Z<|nG ?_
   refine ⟨k + 1,hk,by omega,⟨(iq rfl),trivial⟩,⟨(congrArg hAr (mapTo_skip ageH hk (by have h := h2;have q := hhm.2.2.2.1;simp only [decide_eq_false_iff_not] at h;unfold ageH;rw [show min (x.htlcs[k].age + 1) 1125899906842624 = x.htlcs[k].age by omega]))),trivial⟩,rfl,rfl⟩
 ·intro h1
  refine aE<|eT<|eT<|eB<|gA<|lmP Z<|lc Z<|lf 0 ty.F91_0 Z<|lf 3 ty.F27_3 Z<|loO ty.kd23 Z<|lnI ty.sl23 Z<|lmI Z<|nG<|aB ?_
  have hkeh : k = x.htlcs.length := by have h := h1;simp only [length_rowsOf,decide_eq_false_iff_not] at h;omega
  refine AW.obj 2 (hAr (x.htlcs.map ageH)) (congrArg hAr (by rw [hkeh,mapTo_all])) ?_
  refine aW [0,58] [0,2,3,4] (D := Nat) (fun j => [(59,int (j : Int))]) (fun j => [(1,.arr 40 7 (rowsOf encChan (mapTo (fadeC x.tick) j x.chans)))]) (fun j => j ≤ x.chans.length) (fun j => x.chans.length - j) (0) (Nat.zero_le _) ⟨rfl,trivial⟩ ⟨(congrArg (fun l => AO.arr 40 7 (rowsOf encChan l)) (mapTo_zero (fadeC x.tick) x.chans).symm),trivial⟩ ?_
  intro j hI
  refine sL<|lbB Z<|nG<|aS ?_
  refine AW.cond rfl ?_ ?_
  ·intro h3
   refine aK<|gT<|aS<|aB<|sL ?_
   have hj : j < x.chans.length := by simpa [length_rowsOf] using h3
   have hcm := sm.chans _ (List.getElem_mem hj)
   refine lmI Z<|laI Z<|nA<|lmP Z<|lc Z<|lf 0 ty.F91_0 Z<|lf 0 ty.F27_0 Z<|loI ty.kd3 Z ?_
   refine lhI rfl ⟨rfl,by decide⟩<|lbB Z<|nG ?_
   refine AW.cond rfl ?_ ?_
   ·intro h4
    refine aF [18]<|pq 0 (qmP Z)<|pq 1 (qc Z)<|pq 2 (qf 0 ty.F91_0 Z)<|pq 3 (qf 3 ty.F27_3 Z)<|sq 4 (roO ty.kd23 Z)<|pq 5 (qmX (vI _ _) Z)<|fT [0,3,58,59,73,74] [0,1,2,3,4] ?_
    refine pq 6 (qmP rfl)<|pq 7 (qc rfl)<|pq 8 (qf 0 ty.F91_0 rfl)<|pq 9 (qf 3 ty.F27_3 rfl)<|sq 10 (roO ty.kd23 rfl)<|vq 11 (rmI rfl)<|vq 12 (rj j ty.el23 rfl (by rw [length_rowsOf,mapTo_len _ _ _ (Nat.le_of_lt hj)];exact hj))<|vq 13 (rf 6 ty.F40_6 rfl)<|vq 14 (rd (x := vI _ _) (rd_load_arr rfl ty.kd3 rfl rfl rfl (rows_some (mapTo_get _ hj)) rfl) rfl)<|vst 15 rfl (zL Tryz.func117 (sscFade_e _) rfl) (.inr rfl)<|vq 16 (rj j ty.el23 rfl (by rw [length_rowsOf,mapTo_len _ _ _ (Nat.le_of_lt hj)];exact hj))<|vq 17 (rf 6 ty.F40_6 rfl)<|vst 18 rfl (zQ 1 [.v (.int .i64 (fade x.chans[j].score))] ty.co3 ty.inf3 rfl (rows_some (mapTo_get _ hj))) (.inl rfl)<|fD<|gB<|gT ?_
    refine AW.obj 1 (.arr 40 7 (rowsOf encChan (mapTo (fadeC x.tick) (j + 1) x.chans))) (Eq.trans (b := AO.arr 40 7 ((rowsOf encChan (mapTo (fadeC x.tick) j x.chans)).set j ((encChan { x.chans[j] with score := fade x.chans[j].score }).map PV.v))) rfl (congrArg (AO.arr 40 7) (rows_set.trans (congrArg (rowsOf encChan) (by rw [← mapTo_set _ hj];unfold fadeC;rw [if_pos (by simpa using h4)]))))) ?_
    refine aL<|lgI Z<|lmI Z<|nG ?_
    refine ⟨j + 1,hj,by omega,⟨(iq rfl),trivial⟩,⟨rfl,trivial⟩,rfl,rfl⟩
   ·intro h4
    refine aK<|gB<|gT<|aL<|lgI Z<|lmI Z<|nG ?_
    refine ⟨j + 1,hj,by omega,⟨(iq rfl),trivial⟩,⟨(congrArg (fun l => AO.arr 40 7 (rowsOf encChan l)) (mapTo_skip (fadeC x.tick) hj (if_neg (by simpa using h4)))),trivial⟩,rfl,rfl⟩
  ·intro h3
   refine aE<|eT<|eT<|eB ?_
   refine end_go ?_ ⟨rfl,(congrArg (fun l => AO.arr 40 7 (rowsOf encChan l)) (by rw [show j = x.chans.length by have h := h3;simp only [length_rowsOf,decide_eq_false_iff_not] at h;omega,mapTo_all];rfl)),rfl,rfl,rfl,trivial⟩
   rfl

theorem addOk_over {a b : Int} (ha : 0 ≤ a ∧ a ≤ 1125899906842624) (hb : 0 ≤ b ∧ b ≤ 1125899906842624) : addOk a b = !decide (1125899906842624 < a + b) := by
  unfold addOk
  rw [amtOk_true.2 ha,amtOk_true.2 hb,Bool.true_and,Bool.true_and]
  refine Bool.eq_iff_iff.2 ?_
  rw [amtOk_true]
  simp
  omega
theorem keys_nz {x : Book} (h : bookOk x = true) : (∀ h ∈ x.htlcs,h.key ≠ 0) ∧ ∀ h ∈ x.circles,h.key ≠ 0 := by
  obtain ⟨_,_,_,_,h5,_⟩ := bookOk_parts h
  have hk := (parts_all h5).2.2.2.2
  have key : ∀ n ∈ keysOf x,n ≠ 0 := fun n hn => by
    obtain ⟨j,hj,rfl⟩ := List.getElem_of_mem hn
    have := List.all_eq_true.1 hk j (by simpa using hj)
    unfold keyAt at this
    simp only [Bool.and_eq_true] at this
    intro q
    have h1 := this.1
    simp [hj,q,keyOk,inB] at h1
  unfold keysOf at key
  exact ⟨fun y hy => key _ (List.mem_append_left _ (List.mem_map_of_mem hy)),fun y hy => key _ (List.mem_append_right _ (List.mem_map_of_mem hy))⟩
theorem over_1 {x : Book} {e : Event} (hn : x.next ≠ 1125899906842624) (hk : e.kind = 1) : overB x e = decide (1125899906842624 < x.wallet + e.amt) := by unfold overB;rw [if_neg hn,if_pos hk]
theorem over_2 {x : Book} {e : Event} (hn : x.next ≠ 1125899906842624) (hk : e.kind = 2) : overB x e = decide (1125899906842624 < e.amt + e.fee) := by unfold overB;simp [hn,hk]
theorem over_3n {x : Book} {e : Event} (hn : x.next ≠ 1125899906842624) (hk : e.kind = 3) (hc : chanAt x.chans e.ch = -1) : overB x e = false := by unfold overB;simp [hn,hk,hc]
theorem over_3s {x : Book} {e : Event} {i : Nat} {c : Chan} (hn : x.next ≠ 1125899906842624) (hk : e.kind = 3) (hc : chanAt x.chans e.ch = (i : Int)) (ho : chanOr x.chans e.ch = c) : overB x e = decide (1125899906842624 < x.wallet + c.loc - e.fee) := by unfold overB;simp [hn,hk,hc,ho]
theorem over_8 {x : Book} {e : Event} (hn : x.next ≠ 1125899906842624) (hk : e.kind = 8) : overB x e = decide (x.tick = 1125899906842624) := by unfold overB;simp [hn,hk]
theorem over_o {x : Book} {e : Event} (hn : x.next ≠ 1125899906842624) (h1 : ¬ e.kind = 1) (h2 : ¬ e.kind = 2) (h3 : ¬ e.kind = 3) (h8 : ¬ e.kind = 8) : overB x e = false := by unfold overB;simp [hn,h1,h2,h3,h8]
def spR (x : Book) (e : Event) : WR := if overB x e = true then ⟨x,[],2⟩ else workR x e
theorem spR_over {x : Book} {e : Event} (h : overB x e = true) : (⟨x,[],2⟩ : WR) = spR x e := by unfold spR;rw [if_pos h]
theorem spR_work {x : Book} {e : Event} (h : overB x e = false) : workR x e = spR x e := by unfold spR;rw [if_neg (by simp [h])]
theorem spR_next (x : Book) (e : Event) : (spR x e).b.next = x.next := by unfold spR;split <;> first | rfl | exact workR_next x e
theorem applyC_sp {x : Book} {e : Event} (h : (bookOk x && eventOk e) = true) : applyC x e = (spR x e).c := by
  unfold applyC spR
  rw [if_pos h]
  split <;> rfl
theorem spR_c {x : Book} {e : Event} (h : (spR x e).c = 0) : overB x e = false ∧ spR x e = workR x e := by
  unfold spR at *
  split at h
  · exact absurd h (by show ¬ ((2 : Int) = 0);decide)
  · rename_i q
    exact ⟨by simpa using q,if_neg q⟩
theorem sp_next {x : Book} {e : Event} (h : x.next = 1125899906842624) : overB x e = true := by unfold overB;rw [if_pos h]
theorem sopen2_e (g : Value) (x : Book) (e : Event) (hsum : addOk e.amt e.fee = false) : GC Tryz.prog 54 [.ptr 0 0 0,evV e] (sIn g x [] 0) (.tup []) (sIn g x [] 2) := by
 refine GC.intro (rs := []) Tryz.func54 rfl Tryz.ntmps54 (Nat.le_of_ble_eq_true rfl) trivial ?_
 intro L O w0
 refine sL<|lst (zX 2003 Z) Z<|nA<|lf 4 ty.F29_4 Z<|loI ty.kd3 Z<|lf 5 ty.F29_5 Z<|loI ty.kd3 Z<|lst (zL Tryz.func52 (saddAmt_e _ _) Z) Z<|lmX (.tup [vI _ _,vB _]) Z<|lxI Z<|lxB Z<|lsB 18 false Z hsum<|laI Z<|laZ Z<|nG<|aS<|aS<|aF [3,23,35]<|pq 0 (qmP Z)<|vq 1 (rmZ Z)<|vq 2 (ruT Z) ?_
 refine vst 3 rfl (z5a Tryz.func51 (scode_e _ _ _ _ _ _ _ _ _ _ _ _ _ _ _ _ _ _ _ ) (⟨stays.box (Eq.refl 8),trivial⟩) rfl rfl) (.inl rfl)<|fsB 22 true rfl (by simp [failC])<|fT [0,3,4,22] [0,1,2,3,4,2003] ?_
 refine vq 4 (rmT Z)<|pno 5 Z<|pno 6 Z<|pno 7 Z<|pno 8 Z<|pno 9 Z<|vno 10 Z<|vno 11 Z<|vno 12 Z<|vno 13 Z<|vno 14 Z<|vno 15 Z<|vno 16 Z<|vno 17 Z<|vno 18 Z<|vno 19 Z<|vno 20 Z<|vno 21 Z<|vno 22 Z<|vno 23 Z<|vq 24 (rkT Z)<|vq 25 (rmT Z)<|pno 26 Z<|pno 27 Z<|pno 28 Z<|pno 29 Z<|pno 30 Z<|pno 31 Z<|vno 32 Z<|vno 33 Z ?_
 refine vno 34 Z<|vno 35 Z<|vq 36 (rkT Z)<|fD<|gT<|aY Z<|aR<|rT ?_
 refine end_ret ?_ ⟨rfl,rfl,rfl,rfl,rfl,trivial⟩
 rfl
theorem stick2_e (g : Value) (x : Book) (ht : x.tick = 1125899906842624) : GC Tryz.prog 59 [.ptr 0 0 0] (sIn g x [] 0) (.tup []) (sIn g x [] 2) := by
 refine GC.intro (rs := []) Tryz.func59 rfl Tryz.ntmps59 (Nat.le_of_ble_eq_true rfl) trivial ?_
 intro L O w0
 refine aS<|sL<|lmP Z<|lmP Z<|lc Z<|lf 0 ty.F91_0 Z<|lf 0 ty.F27_0 Z<|loI ty.kd3 Z<|lbB Z<|lsB 10 true rfl (by simpa using ht) ?_
 refine lst (z5a Tryz.func51 (scode_e _ _ _ _ _ _ _ _ _ _ _ _ _ _ _ _ _ _ _ ) (⟨stays.box (Eq.refl 8),trivial⟩) rfl rfl) Z<|lsB 11 true rfl (by rfl)<|nG<|aY Z<|aR<|rT ?_
 refine end_ret ?_ ⟨rfl,rfl,rfl,rfl,rfl,trivial⟩
 rfl
theorem sapply_e (x : Book) (e : Event) (hw : BookWf x) : GX Tryz.prog 10 [bookV x,evV e] [] (appR x e) := by
 refine GX.intro (rs := [.cell 4 27 (some 6),.cell 5 34 (some 2),.tmp 6]) Tryz.func10 rfl Tryz.ntmps10 (Nat.le_of_ble_eq_true rfl) ⟨rfl,rfl,ty.kd27,rfl,rfl,ty.kd34,rfl,trivial⟩ ?_
 intro L O w0
 refine sL<|lst (zX 2002 Z) Z<|lst (zX 2003 Z) Z<|lst (zA 2004 ty.ze27 Z) Z<|lst (zA 2005 ty.ze34 Z) Z<|laI Z<|nG<|aS<|sL<|loX (.agg [vI _ _,vI _ _,vI _ _,vL _ _ _,vL _ _ _,vL _ _ _]) ty.kd27 Z<|lst (zL Tryz.func22 (spec_BookOk_e x hw) Z) Z<|luB Z<|lmB Z ?_
 refine AL.bool (t := 16) rfl ?_ ?_
 ·intro h1
  refine lno Z<|lno Z<|lno Z<|lkT Z<|nG<|aY Z<|sL<|lq (rd (x := .agg [vI _ _,vI _ _,vI _ _,vV _,vV _,vV _]) (rd_build Z ty.sa27 Z Z Z) Z)<|lq (rd (x := .agg [vI _ _,vV _]) (rd_build Z ty.sa34 Z Z Z) Z)<|lst (zB 2004 ty.co27 ty.inf27 Z) Z<|lst (zB 2005 ty.co34 ty.inf34 Z) Z<|lT [2,3,4,5,6] [2002,2003,2004,2005] ?_
  refine laI Z<|nG<|aR<|rT ?_
  have hbe : (bookOk x && eventOk e) = false := by simp_all
  have hc1 := applyC_bad hbe
  refine end_xret (.tup [zBookV,zPostV,int 1]) [] ?_ rfl trivial
  exact .inl ⟨by rw [hc1];decide,by rw [hc1],rfl⟩
 ·intro h1
  refine loX (.agg [vI _ _,vI _ _,vI _ _,vI _ _,vI _ _,vI _ _,vB _]) ty.kd29 Z<|lst (zL Tryz.func49 (seventOk_e e) Z) Z<|luB Z<|lkB Z<|nG ?_
  refine AW.cond rfl ?_ ?_
  ·intro h2
   refine sL<|lq (rd (x := .agg [vI _ _,vI _ _,vI _ _,vV _,vV _,vV _]) (rd_build Z ty.sa27 Z Z Z) Z)<|lq (rd (x := .agg [vI _ _,vV _]) (rd_build Z ty.sa34 Z Z Z) Z)<|lst (zB 2004 ty.co27 ty.inf27 Z) Z<|lst (zB 2005 ty.co34 ty.inf34 Z) Z<|laI Z<|nG<|aR<|rT ?_
   have hbe : (bookOk x && eventOk e) = false := by simp_all
   have hc1 := applyC_bad hbe
   refine end_xret (.tup [zBookV,zPostV,int 1]) [] ?_ rfl trivial
   exact .inl ⟨by rw [hc1];decide,by rw [hc1],rfl⟩
  ·intro h2
   refine aK<|gA ?_
   have hbe : (bookOk x && eventOk e) = true := by simp_all
   have hbk : bookOk x = true := by simp_all
   have hev : eventOk e = true := by simp_all
   have fi := bookOk_fi hbk
   have sm := fi.sm
   obtain ⟨es,an0,fn0⟩ := evSm_of hev
   have hm : x.chans.length ≤ 1000000000 := by have := sm.lc;omega
   obtain ⟨h_t,h_w,h_n,h_len,h_pt,h_ch⟩ := bookOk_parts hbk
   have hnx := inB_true.1 h_n
   have hwl := amtOk_true.1 h_w
   have hcs := applyC_sp hbe
   have hkk := ev_kind hev
   have hea := evAmt hev
   refine loX (.agg [vI _ _,vI _ _,vI _ _,vL _ _ _,vL _ _ _,vL _ _ _]) ty.kd27 Z<|lst (zC [(2003,1),(2008,2),(2013,3)] [1,2,3] [] Tryz.func50 (scopy_e x (by have := sm.lc;have := sm.lh;have := sm.li;omega)) (trivial) rfl rfl) Z<|lq (rd (x := .agg [vI _ _,vI _ _,vI _ _,.own _,.own _,.own _,vV _,vI _ _]) (rd_build rfl ty.sa91 rfl rfl rfl) rfl)<|lst (zX 0 rfl) Z<|lT [2,3,4,5,6,26] [0,1,2,3,2002,2003,2004,2005] ?_
   refine laP Z<|nG ?_
   refine AW.adoptB 4 0 6 120 3 rfl (by decide) rfl ?_
   refine AW.pinB 0 rfl ?_
   intro gw
   refine AW.obj 4 (lAr []) rfl ?_
   refine sL<|lmP Z<|lf 1 ty.F27_1 Z<|loI ty.kd3 Z<|lbB Z ?_
   refine lst (z5a Tryz.func51 (scode_e _ _ _ _ _ _ _ _ _ _ _ _ _ _ _ _ _ _ _ ) (⟨stays.box (Eq.refl 8),trivial⟩) rfl rfl) Z<|nG ?_
   refine aJ [4,5,6,7] [2002,2003,2004,2005] (D := Unit) (fun jd => []) (fun jd => [(0,sBox gw (spR x e).b.tick (spR x e).b.next (spR x e).b.wallet (spR x e).c),(1,.arr 40 7 (rowsOf encChan (spR x e).b.chans)),(2,hAr (spR x e).b.htlcs),(3,iAr (spR x e).b.circles),(4,lAr (spR x e).l)]) (fun jd => True) ?_ ?_
   ·refine sL<|lmP Z<|lc Z<|lf 7 ty.F91_2 Z<|loI ty.kd3 Z<|lbB Z<|nG ?_
    refine AW.cond rfl ?_ ?_
    ·intro h3
     refine aS ?_
     have hnn : x.next ≠ 1125899906842624 := fun q => by
       have h := h3
       rw [decide_eq_true q] at h
       simp [failC] at h
     refine AW.obj 0 (sBox gw x.tick x.next x.wallet 0) (Eq.trans (b := sBox gw x.tick x.next x.wallet _) rfl (congrArg (sBox gw x.tick x.next x.wallet) (by rw [decide_eq_false hnn];rfl))) ?_
     refine aL<|lf 0 ty.F29_0 Z<|loI ty.kd3 Z<|nG<|aB<|sL<|lbB Z<|laB Z<|nG ?_
     refine AW.cond rfl ?_ ?_
     ·intro h4
      refine sL<|lf 2 ty.F27_2 Z<|loI ty.kd3 Z<|lf 4 ty.F29_4 Z<|loI ty.kd3 Z<|lst (zL Tryz.func52 (saddAmt_e _ _) Z) Z<|lT [3,4,5,6,7,46] [0,1,2,3,4,2002,2003,2004,2005] ?_
      refine lmX (.tup [vI _ _,vB _]) Z<|lxI Z<|lxB Z<|laI Z<|laB Z<|nA<|lmP Z<|lmB Z<|luB Z ?_
      refine lst (z5a Tryz.func51 (scode_e _ _ _ _ _ _ _ _ _ _ _ _ _ _ _ _ _ _ _ ) (⟨stays.box (Eq.refl 8),trivial⟩) rfl rfl) Z<|luB Z<|nG ?_
      refine AW.cond rfl ?_ ?_
      ·intro h5
       refine aS ?_
       have haO : addOk x.wallet e.amt = true := by
         have h := h5
         rcases q : addOk x.wallet e.amt with _ | _
         ·rw [q] at h;simp [failC] at h
         ·rfl
       refine aL<|lmP Z<|lmI Z<|lsN 55 (x.wallet + e.amt) Z (addV_yes haO)<|lc Z<|lf 0 ty.F91_0 Z<|lf 2 ty.F27_2 Z<|lst (zB 0 ty.co3 ty.inf3 Z) Z<|lT [3,4,5,6,7] [0,1,2,3,4,2002,2003,2004,2005] ?_
       refine nA<|lmP Z<|lf 4 ty.F29_4 Z<|loI ty.kd3 Z ?_
       refine lst (z5a Tryz.func53 (sline_e _ _ _ _ _ _ _ _ _ _ _ _ _ _ ([]) 0 (LG.nil) (by decide) _ _ _ (Fresh.nil _ _) (rangeA_of es.amt)) (⟨stays.box (Eq.refl 8),trivial⟩) rfl rfl) Z<|nG<|aL<|lmP Z<|lf 4 ty.F29_4 Z<|loI ty.kd3 Z<|lq (rd (x := vI _ _) (rd_un rfl rfl (fits_i64 (by have := es.amt;unfold A50 at *;unfold i64;omega))) rfl) ?_
       refine lst (z5a Tryz.func53 (sline_e _ _ _ _ _ _ _ _ _ _ _ _ _ _ (addL [] 1 0 e.amt) 1 (LG.nil.add (rangeA_of es.amt)) (by decide) _ _ _ ((Fresh.nil _ _).add (.inl (by decide))) (rangeA_neg es.amt)) (⟨stays.box (Eq.refl 8),trivial⟩) rfl rfl) Z<|lN<|gB<|gT ?_
       have hkd : e.kind = 1 := by simpa using h4
       have hov : overB x e = false := by
         have h := h5
         rw [over_1 hnn hkd]
         rw [addOk_over hwl ⟨an0,(amtOk_true.1 hea.1).2⟩] at h
         rcases q : decide (1125899906842624 < x.wallet + e.amt) with _ | _
         ·(rw [q] at h) <;> first | rfl | (simp [failC] at h)
         ·(rw [q] at h) <;> first | rfl | (simp [failC] at h)
       have hw : depR x e = spR x e := (wk1 hkd).trans (spR_work hov)
       refine ⟨(),trivial,trivial,⟨(Eq.trans (b := sBox gw x.tick x.next (x.wallet + e.amt) 0) (Eq.trans (b := sBox gw x.tick x.next (x.wallet + e.amt) _) rfl (congrArg (sBox gw x.tick x.next (x.wallet + e.amt)) (by rw [show addOk x.wallet e.amt = true by rw [addOk_over hwl ⟨an0,(amtOk_true.1 hea.1).2⟩,← over_1 hnn hkd,hov];rfl];rfl))) (congrArg (fun r : WR => sBox gw r.b.tick r.b.next r.b.wallet r.c) hw)),(congrArg (fun r : WR => AO.arr 40 7 (rowsOf encChan r.b.chans)) hw),(congrArg (fun r : WR => hAr r.b.htlcs) hw),(congrArg (fun r : WR => iAr r.b.circles) hw),(congrArg (fun r : WR => lAr r.l) hw),trivial⟩,rfl,rfl⟩
      ·intro h5
       refine aK<|gB<|gT ?_
       have hkd : e.kind = 1 := by simpa using h4
       have hov : overB x e = true := by
         have h := h5
         rw [over_1 hnn hkd]
         rw [addOk_over hwl ⟨an0,(amtOk_true.1 hea.1).2⟩] at h
         rcases q : decide (1125899906842624 < x.wallet + e.amt) with _ | _
         ·(rw [q] at h) <;> first | rfl | (simp [failC] at h)
         ·(rw [q] at h) <;> first | rfl | (simp [failC] at h)
       have hw : (⟨x,[],2⟩ : WR) = spR x e := spR_over hov
       refine ⟨(),trivial,trivial,⟨(Eq.trans (b := sBox gw x.tick x.next x.wallet 2) (Eq.trans (b := sBox gw x.tick x.next x.wallet _) rfl (congrArg (sBox gw x.tick x.next x.wallet) (by first | rfl | (rw [show addOk x.wallet e.amt = false by rw [addOk_over hwl ⟨an0,(amtOk_true.1 hea.1).2⟩,← over_1 hnn hkd,hov];rfl];rfl)))) (congrArg (fun r : WR => sBox gw r.b.tick r.b.next r.b.wallet r.c) hw)),(congrArg (fun r : WR => AO.arr 40 7 (rowsOf encChan r.b.chans)) hw),(congrArg (fun r : WR => hAr r.b.htlcs) hw),(congrArg (fun r : WR => iAr r.b.circles) hw),(congrArg (fun r : WR => lAr r.l) hw),trivial⟩,rfl,rfl⟩
     ·intro h4
      refine sL<|lbB Z<|laB Z<|nG ?_
      refine AW.cond rfl ?_ ?_
      ·intro h6
       refine aL<|lmP Z ?_
       rcases hsum : addOk e.amt e.fee with _ | _
       ·skip
        refine loX (.agg [vI _ _,vI _ _,vI _ _,vI _ _,vI _ _,vI _ _,vB _]) ty.kd29 rfl ?_
        refine lst (z5a Tryz.func54 (sopen2_e _ x e hsum) (⟨stays.box (Eq.refl 8),trivial⟩) rfl rfl) Z<|lT [4,5,6,7] [0,1,2,3,4,2002,2003,2004,2005] ?_
        refine lN<|gB<|gT ?_
        have hkd : e.kind = 2 := by simpa using h6
        have hov : overB x e = true := by
          rw [over_2 hnn hkd]
          rw [addOk_over ⟨an0,(amtOk_true.1 hea.1).2⟩ ⟨fn0,(amtOk_true.1 hea.2).2⟩] at hsum
          simpa using hsum
        have hw : (⟨x,[],2⟩ : WR) = spR x e := spR_over hov
        refine ⟨(),trivial,trivial,⟨(Eq.trans (b := sBox gw x.tick x.next x.wallet 2) rfl (congrArg (fun r : WR => sBox gw r.b.tick r.b.next r.b.wallet r.c) hw)),(congrArg (fun r : WR => AO.arr 40 7 (rowsOf encChan r.b.chans)) hw),(congrArg (fun r : WR => hAr r.b.htlcs) hw),(congrArg (fun r : WR => iAr r.b.circles) hw),(congrArg (fun r : WR => lAr r.l) hw),trivial⟩,rfl,rfl⟩
       ·skip
        refine loX (.agg [vI _ _,vI _ _,vI _ _,vI _ _,vI _ _,vI _ _,vB _]) ty.kd29 rfl ?_
        refine lst (z5a Tryz.func54 (sopen_e _ x e sm es hsum) (⟨stays.box (Eq.refl 8),trivial⟩) rfl rfl) Z<|lN<|gB<|gT ?_
        have hkd : e.kind = 2 := by simpa using h6
        have hov : overB x e = false := by
          rw [over_2 hnn hkd]
          rw [addOk_over ⟨an0,(amtOk_true.1 hea.1).2⟩ ⟨fn0,(amtOk_true.1 hea.2).2⟩] at hsum
          simpa using hsum
        have hw : openR x e = spR x e := (wk2 hkd).trans (spR_work hov)
        refine ⟨(),trivial,trivial,⟨(congrArg (fun r : WR => sBox gw r.b.tick r.b.next r.b.wallet r.c) hw),(congrArg (fun r : WR => AO.arr 40 7 (rowsOf encChan r.b.chans)) hw),(congrArg (fun r : WR => hAr r.b.htlcs) hw),(congrArg (fun r : WR => iAr r.b.circles) hw),(congrArg (fun r : WR => lAr r.l) hw),trivial⟩,rfl,rfl⟩
      ·intro h6
       refine sL<|lbB Z<|laB Z<|nG ?_
       refine AW.cond rfl ?_ ?_
       ·intro h7
        refine sL<|loX (.agg [vI _ _,vI _ _,vI _ _,vL _ _ _,vL _ _ _,vL _ _ _]) ty.kd27 Z<|lf 2 ty.F29_2 Z<|loI ty.kd3 Z ?_
        rcases chan_find x.chans e.ch with ⟨hi,ho⟩ | ⟨i,c,hi,hc,ho,hid⟩
        ·skip
         refine lst (zL Tryz.func55 (sAt_e x _ hm) rfl) Z<|laI Z<|nG<|aS<|sL<|lmI Z<|lbB Z<|lsB 80 false rfl (by rw [show atI (fun c => c.id == e.ch) x.chans = _ from hi];simp)<|nG<|aN Z<|aK<|gA<|lmP Z<|lc Z<|lf 7 ty.F91_2 Z<|loI ty.kd3 Z<|lbB Z<|lsB 100 true rfl (by rfl)<|nG<|aY Z<|aL<|lmP Z<|loX (.agg [vI _ _,vI _ _,vI _ _,vI _ _,vI _ _,vI _ _,vB _]) ty.kd29 rfl ?_
         refine lst (z5a Tryz.func56 (sshut_e _ x e fi es fn0) (⟨stays.box (Eq.refl 8),trivial⟩) rfl rfl) Z<|lT [4,5,6,7] [0,1,2,3,4,2002,2003,2004,2005] ?_
         refine lN<|gB<|gT ?_
         have hkd : e.kind = 3 := by simpa using h7
         have hov : overB x e = false := over_3n hnn hkd hi
         have hw : shutR x e = spR x e := (wk3 hkd).trans (spR_work hov)
         refine ⟨(),trivial,trivial,⟨(congrArg (fun r : WR => sBox gw r.b.tick r.b.next r.b.wallet r.c) hw),(congrArg (fun r : WR => AO.arr 40 7 (rowsOf encChan r.b.chans)) hw),(congrArg (fun r : WR => hAr r.b.htlcs) hw),(congrArg (fun r : WR => iAr r.b.circles) hw),(congrArg (fun r : WR => lAr r.l) hw),trivial⟩,rfl,rfl⟩
        ·have hcm := sm.chans c (mem_of_get hc)
         refine lst (zL Tryz.func55 (sAt_e x _ hm) rfl) Z<|laI Z<|nG<|aS<|sL<|lmI Z<|lbB Z<|lsB 80 true rfl (by rw [show atI (fun c => c.id == e.ch) x.chans = _ from hi];simp)<|nG<|aY Z<|aF [14]<|pq 0 (qmP rfl)<|pq 1 (qf 2 ty.F27_2 rfl)<|sq 2 (roI ty.kd3 rfl)<|pq 3 (qf 3 ty.F27_3 rfl)<|sq 4 (roL ty.kd23 rfl)<|pq 5 (qmX (vI _ _) rfl)<|sq 6 (rd (x := .rp _) (rd_iaddr_p (i := i) rfl ty.el23 rfl rfl ?hn1 (rows_some hc)) rfl) ?_
         case hn1 => rw [← chanAt_atI];exact hi
         refine pq 7 (qd (x := .rp _) (zpfr ty.F40_2 Z) Z)<|sq 8 (rrI ty.kd3 Z) ?_
         refine sq 9 (rhI rfl ⟨rfl,fits_i64 (by have := hcm.1;have := es.amt;have := es.fee;have := sm.wallet;unfold A50 at *;unfold i64;omega)⟩)<|vq 10 (rf 5 ty.F29_5 rfl)<|vq 11 (roI ty.kd3 rfl) ?_
         refine vq 12 (rhI rfl ⟨rfl,fits_i64 (by have := hcm.1;have := es.amt;have := es.fee;have := sm.wallet;unfold A50 at *;unfold i64;omega)⟩)<|vq 13 (rbB rfl) ?_
         refine vst 14 rfl (z5a Tryz.func51 (scode_e _ _ _ _ _ _ _ _ _ _ _ _ _ _ _ _ _ _ _ ) (⟨stays.box (Eq.refl 8),trivial⟩) rfl rfl) (.inl rfl)<|fT [3,4,5,6,7] [0,1,2,3,4,2002,2003,2004,2005] ?_
         refine fD<|gA<|lmP Z<|lc Z<|lf 7 ty.F91_2 Z<|loI ty.kd3 Z<|lbB Z<|nG ?_
         refine AW.cond rfl ?_ ?_
         ·intro h8
          refine AW.obj 0 (sBox gw x.tick x.next x.wallet 0) (Eq.trans (b := sBox gw x.tick x.next x.wallet _) rfl (congrArg (sBox gw x.tick x.next x.wallet) (by have h := h8;simp only [decide_eq_true_eq] at h;exact h))) ?_
          refine aL<|lmP Z<|loX (.agg [vI _ _,vI _ _,vI _ _,vI _ _,vI _ _,vI _ _,vB _]) ty.kd29 Z ?_
          refine lst (z5a Tryz.func56 (sshut_e _ x e fi es fn0) (⟨stays.box (Eq.refl 8),trivial⟩) rfl rfl) Z<|lN<|gB<|gT ?_
          have hkd : e.kind = 3 := by simpa using h7
          have hov : overB x e = false := by
            have h := h8
            rw [over_3s hnn hkd hi ho]
            rcases q : decide (1125899906842624 < x.wallet + c.loc - e.fee) with _ | _
            ·(rw [q] at h) <;> first | rfl | (simp [failC] at h)
            ·(rw [q] at h) <;> first | rfl | (simp [failC] at h)
          have hw : shutR x e = spR x e := (wk3 hkd).trans (spR_work hov)
          refine ⟨(),trivial,trivial,⟨(congrArg (fun r : WR => sBox gw r.b.tick r.b.next r.b.wallet r.c) hw),(congrArg (fun r : WR => AO.arr 40 7 (rowsOf encChan r.b.chans)) hw),(congrArg (fun r : WR => hAr r.b.htlcs) hw),(congrArg (fun r : WR => iAr r.b.circles) hw),(congrArg (fun r : WR => lAr r.l) hw),trivial⟩,rfl,rfl⟩
         ·intro h8
          refine aK<|gB<|gT ?_
          have hkd : e.kind = 3 := by simpa using h7
          have hov : overB x e = true := by
            have h := h8
            rw [over_3s hnn hkd hi ho]
            rcases q : decide (1125899906842624 < x.wallet + c.loc - e.fee) with _ | _
            ·(rw [q] at h) <;> first | rfl | (simp [failC] at h)
            ·(rw [q] at h) <;> first | rfl | (simp [failC] at h)
          have hw : (⟨x,[],2⟩ : WR) = spR x e := spR_over hov
          refine ⟨(),trivial,trivial,⟨(Eq.trans (b := sBox gw x.tick x.next x.wallet 2) (Eq.trans (b := sBox gw x.tick x.next x.wallet _) rfl (congrArg (sBox gw x.tick x.next x.wallet) (by rw [← over_3s hnn hkd hi ho,hov];rfl))) (congrArg (fun r : WR => sBox gw r.b.tick r.b.next r.b.wallet r.c) hw)),(congrArg (fun r : WR => AO.arr 40 7 (rowsOf encChan r.b.chans)) hw),(congrArg (fun r : WR => hAr r.b.htlcs) hw),(congrArg (fun r : WR => iAr r.b.circles) hw),(congrArg (fun r : WR => lAr r.l) hw),trivial⟩,rfl,rfl⟩
       ·intro h7
        refine sL<|lbB Z<|laB Z<|nG ?_
        refine AW.cond rfl ?_ ?_
        ·intro h9
         refine sL<|loX (.agg [vI _ _,vI _ _,vI _ _,vL _ _ _,vL _ _ _,vL _ _ _]) ty.kd27 Z<|lf 2 ty.F29_2 Z<|loI ty.kd3 Z ?_
         rcases chan_find x.chans e.ch with ⟨hi,ho⟩ | ⟨i,c,hi,hc,ho,hid⟩
         ·skip
          refine lst (zL Tryz.func55 (sAt_e x _ hm) Z) Z<|lT [3,4,5,6,7,109] [0,1,2,3,4,2002,2003,2004,2005] ?_
          refine laI Z<|nA<|lmP Z<|lmI Z<|lbB Z<|lsB 112 true rfl (by rw [show atI (fun c => c.id == e.ch) x.chans = _ from hi];simp) ?_
          refine lst (z5a Tryz.func51 (scode_e _ _ _ _ _ _ _ _ _ _ _ _ _ _ _ _ _ _ _ ) (⟨stays.box (Eq.refl 8),trivial⟩) rfl rfl) Z<|lsB 113 true rfl (by rfl)<|luZ Z<|nG<|aN Z<|aK<|gB<|gT ?_
          have hkd : e.kind = 4 := by simpa using h9
          have hov : overB x e = false := over_o hnn (by omega) (by omega) (by omega) (by omega)
          have hw : priR x e = spR x e := (wk4 hkd).trans (spR_work hov)
          rw [priR_no hi] at hw
          refine ⟨(),trivial,trivial,⟨(congrArg (fun r : WR => sBox gw r.b.tick r.b.next r.b.wallet r.c) hw),(congrArg (fun r : WR => AO.arr 40 7 (rowsOf encChan r.b.chans)) hw),(congrArg (fun r : WR => hAr r.b.htlcs) hw),(congrArg (fun r : WR => iAr r.b.circles) hw),(congrArg (fun r : WR => lAr r.l) hw),trivial⟩,rfl,rfl⟩
         ·have hcm := sm.chans c (mem_of_get hc)
          refine lst (zL Tryz.func55 (sAt_e x _ hm) rfl) Z<|laI Z<|nA<|lmP Z<|lmI Z<|lbB Z<|lsB 112 false rfl (by rw [show atI (fun c => c.id == e.ch) x.chans = _ from hi];simp) ?_
          refine lst (z5a Tryz.func51 (scode_e _ _ _ _ _ _ _ _ _ _ _ _ _ _ _ _ _ _ _ ) (⟨stays.box (Eq.refl 8),trivial⟩) rfl rfl) Z<|lsB 113 false rfl (by rfl)<|luT Z<|nG<|aY Z<|aS<|aF [10]<|pq 0 (qmP rfl)<|pq 1 (qc rfl)<|pq 2 (qf 0 ty.F91_0 rfl)<|pq 3 (qf 3 ty.F27_3 rfl)<|sq 4 (roO ty.kd23 rfl)<|pq 5 (qmX (vI _ _) rfl)<|vq 6 (rf 4 ty.F29_4 rfl)<|vq 7 (roI ty.kd3 rfl)<|vq 8 (rd (x := .ptr 1 _ 0) (rd_iaddr_own (i := i) rfl ty.el23 rfl rfl rfl ?hn2 (by rw [length_rowsOf];exact (List.getElem?_eq_some_iff.1 hc).1)) rfl) ?_
          case hn2 => rw [← chanAt_atI];exact hi
          refine vq 9 (rf 4 ty.F40_4 Z)<|vst 10 Z (zQ 1 [.v (.int .i64 e.amt)] ty.co3 ty.inf3 Z (rows_some hc)) (.inl Z)<|fT [3,4,5,6,7,11] [0,1,2,3,4,2002,2003,2004,2005] ?_
          refine fD<|gT ?_
          refine AW.obj 1 (AO.arr 40 7 (rowsOf encChan (x.chans.set i { c with base := e.amt }))) (Eq.trans (b := AO.arr 40 7 ((rowsOf encChan (x.chans)).set i ((encChan { c with base := e.amt }).map PV.v))) rfl (congrArg (AO.arr 40 7) (rows_set))) ?_
          refine aF [10]<|pq 0 (qmP rfl)<|pq 1 (qc rfl)<|pq 2 (qf 0 ty.F91_0 rfl)<|pq 3 (qf 3 ty.F27_3 rfl)<|sq 4 (roO ty.kd23 rfl)<|pq 5 (qmX (vI _ _) rfl)<|vq 6 (rf 5 ty.F29_5 rfl)<|vq 7 (roI ty.kd3 rfl)<|vq 8 (rd (x := .ptr 1 _ 0) (rd_iaddr_own (i := i) rfl ty.el23 rfl rfl rfl ?hn3 (by rw [length_rowsOf,List.length_set];exact (List.getElem?_eq_some_iff.1 hc).1)) rfl) ?_
          case hn3 => rw [← chanAt_atI];exact hi
          refine vq 9 (rf 5 ty.F40_5 Z)<|vst 10 Z (zQ 1 [.v (.int .i64 e.fee)] ty.co3 ty.inf3 Z (rows_some (set_get_eq hc { c with base := e.amt }))) (.inl Z)<|fD<|gB<|gT ?_
          have hkd : e.kind = 4 := by simpa using h9
          have hov : overB x e = false := over_o hnn (by omega) (by omega) (by omega) (by omega)
          have hw : priR x e = spR x e := (wk4 hkd).trans (spR_work hov)
          rw [priR_yes hi] at hw
          refine ⟨(),trivial,trivial,⟨(congrArg (fun r : WR => sBox gw r.b.tick r.b.next r.b.wallet r.c) hw),(Eq.trans (Eq.trans (b := AO.arr 40 7 ((rowsOf encChan (x.chans.set i { c with base := e.amt })).set i ((encChan { c with base := e.amt,ppm := e.fee }).map PV.v))) rfl (congrArg (AO.arr 40 7) (rows_set.trans (congrArg (rowsOf encChan) (by rw [List.set_set,set_upd fi.ids hc (fun c => { c with base := e.amt,ppm := e.fee }),hid]))))) (congrArg (fun r : WR => AO.arr 40 7 (rowsOf encChan r.b.chans)) hw)),(congrArg (fun r : WR => hAr r.b.htlcs) hw),(congrArg (fun r : WR => iAr r.b.circles) hw),(congrArg (fun r : WR => lAr r.l) hw),trivial⟩,rfl,rfl⟩
        ·intro h9
         refine sL<|lbB Z<|laB Z<|nG ?_
         refine AW.cond rfl ?_ ?_
         ·intro h10
          refine aL<|lmP Z<|loX (.agg [vI _ _,vI _ _,vI _ _,vI _ _,vI _ _,vI _ _,vB _]) ty.kd29 Z ?_
          refine lst (z5a Tryz.func57 (sadm_e _ x e fi es (ev_ne hev (.inl (by simpa using h10)))) (⟨stays.box (Eq.refl 8),trivial⟩) rfl rfl) Z<|lT [4,5,6,7] [0,1,2,3,4,2002,2003,2004,2005] ?_
          refine lN<|gB<|gT ?_
          have hkd : e.kind = 5 := by simpa using h10
          have hov : overB x e = false := over_o hnn (by omega) (by omega) (by omega) (by omega)
          have hw : admR x e = spR x e := (wk5 hkd).trans (spR_work hov)
          refine ⟨(),trivial,trivial,⟨(congrArg (fun r : WR => sBox gw r.b.tick r.b.next r.b.wallet r.c) hw),(congrArg (fun r : WR => AO.arr 40 7 (rowsOf encChan r.b.chans)) hw),(congrArg (fun r : WR => hAr r.b.htlcs) hw),(congrArg (fun r : WR => iAr r.b.circles) hw),(congrArg (fun r : WR => lAr r.l) hw),trivial⟩,rfl,rfl⟩
         ·intro h10
          refine aS<|sL<|lbB Z<|laB Z<|nG ?_
          refine AW.cond rfl ?_ ?_
          ·intro h11
           refine asB 140 true Z h11<|aK<|gT<|aY Z<|aL<|lmP Z<|lf 1 ty.F29_1 Z<|loI ty.kd3 Z<|lf 0 ty.F29_0 Z<|loI ty.kd3 Z<|lbB Z ?_
           refine lst (z5a Tryz.func58 (sset_e _ x _ _ fi (keys_nz hbk).1 (amts_of hbk).1) (⟨stays.box (Eq.refl 8),trivial⟩) rfl rfl) Z<|lN<|gB<|gT ?_
           have hkd : e.kind = 6 := by simpa using h11
           have hov : overB x e = false := over_o hnn (by omega) (by omega) (by omega) (by omega)
           have hw : setR x e = spR x e := (wk6 (.inl hkd)).trans (spR_work hov)
           rw [← setK_eq] at hw
           refine ⟨(),trivial,trivial,⟨(congrArg (fun r : WR => sBox gw r.b.tick r.b.next r.b.wallet r.c) hw),(congrArg (fun r : WR => AO.arr 40 7 (rowsOf encChan r.b.chans)) hw),(congrArg (fun r : WR => hAr r.b.htlcs) hw),(congrArg (fun r : WR => iAr r.b.circles) hw),(congrArg (fun r : WR => lAr r.l) hw),trivial⟩,rfl,rfl⟩
          ·intro h11
           refine asB 140 false Z h11<|aL<|lbB Z<|laB Z<|nG ?_
           refine AW.cond rfl ?_ ?_
           ·intro h12
            refine aL<|lmP Z<|lf 1 ty.F29_1 Z<|loI ty.kd3 Z<|lf 0 ty.F29_0 Z<|loI ty.kd3 Z<|lbB Z ?_
            refine lst (z5a Tryz.func58 (sset_e _ x _ _ fi (keys_nz hbk).1 (amts_of hbk).1) (⟨stays.box (Eq.refl 8),trivial⟩) rfl rfl) Z<|lT [4,5,6,7] [0,1,2,3,4,2002,2003,2004,2005] ?_
            refine lN<|gB<|gT ?_
            have hkd : e.kind = 7 := by simpa using h12
            have hov : overB x e = false := over_o hnn (by omega) (by omega) (by omega) (by omega)
            have hw : setR x e = spR x e := (wk6 (.inr hkd)).trans (spR_work hov)
            rw [← setK_eq] at hw
            refine ⟨(),trivial,trivial,⟨(congrArg (fun r : WR => sBox gw r.b.tick r.b.next r.b.wallet r.c) hw),(congrArg (fun r : WR => AO.arr 40 7 (rowsOf encChan r.b.chans)) hw),(congrArg (fun r : WR => hAr r.b.htlcs) hw),(congrArg (fun r : WR => iAr r.b.circles) hw),(congrArg (fun r : WR => lAr r.l) hw),trivial⟩,rfl,rfl⟩
           ·intro h12
            refine sL<|lbB Z<|laB Z<|nG ?_
            refine AW.cond rfl ?_ ?_
            ·intro h13
             refine aL<|lmP Z ?_
             rcases Classical.em (x.tick = 1125899906842624) with htk | htk
             ·skip
              refine lst (z5a Tryz.func59 (stick2_e _ x htk) (⟨stays.box (Eq.refl 8),trivial⟩) rfl rfl) Z<|lN<|gB<|gT ?_
              have hkd : e.kind = 8 := by simpa using h13
              have hov : overB x e = true := by rw [over_8 hnn hkd];simpa using htk
              have hw : (⟨x,[],2⟩ : WR) = spR x e := spR_over hov
              refine ⟨(),trivial,trivial,⟨(Eq.trans (b := sBox gw x.tick x.next x.wallet 2) rfl (congrArg (fun r : WR => sBox gw r.b.tick r.b.next r.b.wallet r.c) hw)),(congrArg (fun r : WR => AO.arr 40 7 (rowsOf encChan r.b.chans)) hw),(congrArg (fun r : WR => hAr r.b.htlcs) hw),(congrArg (fun r : WR => iAr r.b.circles) hw),(congrArg (fun r : WR => lAr r.l) hw),trivial⟩,rfl,rfl⟩
             ·skip
              refine lst (z5a Tryz.func59 (stick_e _ x sm htk) (⟨stays.box (Eq.refl 8),trivial⟩) rfl rfl) Z<|lN<|gB<|gT ?_
              have hkd : e.kind = 8 := by simpa using h13
              have hov : overB x e = false := by rw [over_8 hnn hkd];simpa using htk
              have hw : tickR x = spR x e := (wk8 hkd).trans (spR_work hov)
              refine ⟨(),trivial,trivial,⟨(congrArg (fun r : WR => sBox gw r.b.tick r.b.next r.b.wallet r.c) hw),(congrArg (fun r : WR => AO.arr 40 7 (rowsOf encChan r.b.chans)) hw),(congrArg (fun r : WR => hAr r.b.htlcs) hw),(congrArg (fun r : WR => iAr r.b.circles) hw),(congrArg (fun r : WR => lAr r.l) hw),trivial⟩,rfl,rfl⟩
            ·intro h13
             refine sL<|lbB Z<|laB Z<|nG ?_
             refine AW.cond rfl ?_ ?_
             ·intro h14
              refine aL<|lmP Z<|loX (.agg [vI _ _,vI _ _,vI _ _,vI _ _,vI _ _,vI _ _,vB _]) ty.kd29 Z ?_
              refine lst (z5a Tryz.func60 (slau_e _ x e fi es (ev_ne hev (.inr (by simpa using h14)))) (⟨stays.box (Eq.refl 8),trivial⟩) rfl rfl) Z<|lN<|gB<|gT ?_
              have hkd : e.kind = 9 := by simpa using h14
              have hov : overB x e = false := over_o hnn (by omega) (by omega) (by omega) (by omega)
              have hw : lauR x e = spR x e := (wk9 hkd).trans (spR_work hov)
              refine ⟨(),trivial,trivial,⟨(congrArg (fun r : WR => sBox gw r.b.tick r.b.next r.b.wallet r.c) hw),(congrArg (fun r : WR => AO.arr 40 7 (rowsOf encChan r.b.chans)) hw),(congrArg (fun r : WR => hAr r.b.htlcs) hw),(congrArg (fun r : WR => iAr r.b.circles) hw),(congrArg (fun r : WR => lAr r.l) hw),trivial⟩,rfl,rfl⟩
             ·intro h14
              refine aS<|sL<|lbB Z<|laB Z<|nG ?_
              refine AW.cond rfl ?_ ?_
              ·intro h15
               refine asB 159 true Z h15<|aK<|gT<|aY Z<|aL<|lmP Z<|lf 1 ty.F29_1 Z<|loI ty.kd3 Z<|lf 0 ty.F29_0 Z<|loI ty.kd3 Z<|lbB Z ?_
               refine lst (z5a Tryz.func61 (sland_e _ x _ _ fi (keys_nz hbk).2 (circle_fits hbk)) (⟨stays.box (Eq.refl 8),trivial⟩) rfl rfl) Z<|lT [4,5,6,7] [0,1,2,3,4,2002,2003,2004,2005] ?_
               refine lN<|gB<|gT ?_
               have hkd : e.kind = 10 := by simpa using h15
               have hov : overB x e = false := over_o hnn (by omega) (by omega) (by omega) (by omega)
               have hw : landR x e = spR x e := (wk10 (by omega)).trans (spR_work hov)
               rw [← landK_eq] at hw
               refine ⟨(),trivial,trivial,⟨(congrArg (fun r : WR => sBox gw r.b.tick r.b.next r.b.wallet r.c) hw),(congrArg (fun r : WR => AO.arr 40 7 (rowsOf encChan r.b.chans)) hw),(congrArg (fun r : WR => hAr r.b.htlcs) hw),(congrArg (fun r : WR => iAr r.b.circles) hw),(congrArg (fun r : WR => lAr r.l) hw),trivial⟩,rfl,rfl⟩
              ·intro h15
               refine asB 159 false Z h15<|aL<|lbB Z<|laB Z<|nG ?_
               refine AW.cond rfl ?_ ?_
               ·intro h16
                refine aL<|lmP Z<|lf 1 ty.F29_1 Z<|loI ty.kd3 Z<|lf 0 ty.F29_0 Z<|loI ty.kd3 Z<|lbB Z ?_
                refine lst (z5a Tryz.func61 (sland_e _ x _ _ fi (keys_nz hbk).2 (circle_fits hbk)) (⟨stays.box (Eq.refl 8),trivial⟩) rfl rfl) Z<|lN<|gB<|gT ?_
                have hkd : e.kind = 11 := by simpa using h16
                have hov : overB x e = false := over_o hnn (by omega) (by omega) (by omega) (by omega)
                have hw : landR x e = spR x e := (wk10 (by omega)).trans (spR_work hov)
                rw [← landK_eq] at hw
                refine ⟨(),trivial,trivial,⟨(congrArg (fun r : WR => sBox gw r.b.tick r.b.next r.b.wallet r.c) hw),(congrArg (fun r : WR => AO.arr 40 7 (rowsOf encChan r.b.chans)) hw),(congrArg (fun r : WR => hAr r.b.htlcs) hw),(congrArg (fun r : WR => iAr r.b.circles) hw),(congrArg (fun r : WR => lAr r.l) hw),trivial⟩,rfl,rfl⟩
               ·intro h16
                refine aK<|gB<|gT ?_
                exfalso
                have q1 : ¬ e.kind = 1 := by simpa using h4
                have q2 : ¬ e.kind = 2 := by simpa using h6
                have q3 : ¬ e.kind = 3 := by simpa using h7
                have q4 : ¬ e.kind = 4 := by simpa using h9
                have q5 : ¬ e.kind = 5 := by simpa using h10
                have q6 : ¬ e.kind = 6 := by simpa using h11
                have q7 : ¬ e.kind = 7 := by simpa using h12
                have q8 : ¬ e.kind = 8 := by simpa using h13
                have q9 : ¬ e.kind = 9 := by simpa using h14
                have q10 : ¬ e.kind = 10 := by simpa using h15
                have q11 : ¬ e.kind = 11 := by simpa using h16
                omega
    ·intro h3
     refine aK<|gT ?_
     have hov : overB x e = true := sp_next (by
       have h := h3
       rcases Classical.em (x.next = 1125899906842624) with q | q
       ·exact q
       ·rw [decide_eq_false q] at h
        simp [failC] at h)
     have hw : (⟨x,[],2⟩ : WR) = spR x e := spR_over hov
     refine ⟨(),trivial,trivial,⟨(Eq.trans (b := sBox gw x.tick x.next x.wallet _) rfl ((congrArg (sBox gw x.tick x.next x.wallet) (show _ = (2 : Int) by first | rfl | (have h := h3;rcases q : decide (x.next = 1125899906842624) with _ | _;(rw [q] at h;simp [failC] at h);rfl))).trans (congrArg (fun r : WR => sBox gw r.b.tick r.b.next r.b.wallet r.c) hw))),(congrArg (fun r : WR => AO.arr 40 7 (rowsOf encChan r.b.chans)) hw),(congrArg (fun r : WR => hAr r.b.htlcs) hw),(congrArg (fun r : WR => iAr r.b.circles) hw),(congrArg (fun r : WR => lAr r.l) hw),trivial⟩,rfl,rfl⟩
   ·intro jd hJ
    refine aS<|sL<|lmP Z<|lc Z<|lf 7 ty.F91_2 Z<|loI ty.kd3 Z<|lbB Z<|nG ?_
    refine AW.cond rfl ?_ ?_
    ·intro h17
     refine aS<|aG 8 [2004,2005]<|tq 0 (rd (x := .agg [vI _ _,vI _ _,vI _ _,vV _,vV _,vV _]) (rd_build Z ty.sa27 Z Z Z) Z)<|tq 1 (rd (x := .agg [vI _ _,vV _]) (rd_build Z ty.sa34 Z Z Z) Z)<|tq 2 (rmP Z)<|tq 3 (rc Z)<|tq 4 (rf 7 ty.F91_2 Z)<|tq 5 (roI ty.kd3 Z)<|yst 6 Z (zB 2004 ty.co27 ty.inf27 Z)<|yst 7 Z (zB 2005 ty.co34 ty.inf34 Z)<|yq 8 (raI Z)<|gD<|gT<|aR<|rT ?_
     refine end_xret (.tup [zBookV,zPostV,int (spR x e).c]) [] ?_ rfl trivial
     exact .inl ⟨by rw [hcs];simpa using h17,by rw [hcs],rfl⟩
    ·intro h17
     refine aK<|gT<|aS<|sL<|lmP Z<|lc Z<|lf 6 ty.F91_1 Z<|loO ty.kd32 Z<|lnI ty.sl32 Z<|lbB Z<|nG ?_
     refine AW.cond rfl ?_ ?_
     ·intro h18
      refine sL<|lmP Z<|lc Z<|lf 0 ty.F91_0 Z<|loX (.agg [vI _ _,vI _ _,vI _ _,.own _,.own _,.own _]) ty.kd27 Z<|lq (rd (x := .agg [vI _ _,vV _]) (rd_build Z ty.sa34 Z Z Z) Z)<|lst (zB 2004 ty.co27 ty.inf27 Z) Z<|lT [4,5,6,7,190] [0,1,2,3,4,2002,2003,2004,2005] ?_
      refine lst (zB 2005 ty.co34 ty.inf34 Z) Z<|laI Z<|nG<|aR<|rT ?_
      have hc0 : (spR x e).c = 0 := by simpa using h17
      obtain ⟨hov,hsp⟩ := spR_c hc0
      have hl0 : (spR x e).l = [] := List.length_eq_zero_iff.1 (by have h := h18;simp only [length_rowsOf,decide_eq_true_eq] at h;omega)
      refine end_xret (.tup [ownB (spR x e).b.tick (spR x e).b.next (spR x e).b.wallet,zPostV,int 0]) (ob3 (spR x e).b) ?_ rfl ⟨rfl,rfl,rfl,trivial⟩
      rw [hsp] at hl0 ⊢;exact .inr (.inl ⟨by rw [hcs];exact hc0,hl0,rfl,rfl⟩)
     ·intro h18
      refine aK<|gT<|aS<|aF [11]<|pq 0 (qmP Z)<|pq 1 (qc Z)<|pq 2 (qf 0 ty.F91_0 Z)<|pq 3 (qf 1 ty.F27_1 Z)<|sq 4 (roI ty.kd3 Z)<|pq 5 (qmP Z)<|pq 6 (qc Z)<|pq 7 (qf 6 ty.F91_1 Z)<|sq 8 (roO ty.kd32 Z)<|sq 9 (rd (x := .agg [vI _ _,.own _]) (rd_build Z ty.sa34 Z Z Z) Z)<|vst 10 Z (zA 2012 ty.ze34 Z) (.inr Z)<|vst 11 Z (zB 2012 ty.co34 ty.inf34 Z) (.inl Z)<|fT [4,5,6,7,12] [0,1,2,3,4,2002,2003,2004,2005,2012] ?_
      refine fD<|gA<|lmP Z<|lc Z<|lf 0 ty.F91_0 Z<|lf 1 ty.F27_1 Z<|loI ty.kd3 Z ?_
      refine lhI rfl ⟨rfl,fits_i64 (by rw [spR_next];unfold i64;omega)⟩<|lc Z<|lf 0 ty.F91_0 Z<|lf 1 ty.F27_1 Z<|lst (zB 0 ty.co3 ty.inf3 rfl) Z<|nG<|aS<|aG 7 [2004,2005]<|tq 0 (rmP rfl)<|tq 1 (rc rfl)<|tq 2 (rf 0 ty.F91_0 rfl)<|tq 3 (roX (.agg [vI _ _,vI _ _,vI _ _,.own _,.own _,.own _]) ty.kd27 rfl)<|tq 4 (roX (.agg [vI _ _,.own _]) ty.kd34 rfl)<|yst 5 rfl (zB 2004 ty.co27 ty.inf27 rfl)<|gX [4,5,6,214] [0,1,2,3,4,2002,2003,2004,2005,2012] ?_
      refine yst 6 Z (zB 2005 ty.co34 ty.inf34 Z)<|yq 7 (raI Z)<|gD<|gT<|aR ?_
      have hc0 : (spR x e).c = 0 := by simpa using h17
      obtain ⟨hov,hsp⟩ := spR_c hc0
      have hl0 : (spR x e).l ≠ [] := fun q => by
        have h := h18
        rw [q] at h
        simp [rowsOf] at h
      refine end_xret (.tup [ownB (spR x e).b.tick ((spR x e).b.next + 1) (spR x e).b.wallet,.agg [int (spR x e).b.next,.own 4],int 0]) (ob4 (spR x e).b (spR x e).l) ?_ rfl ⟨rfl,rfl,rfl,rfl,trivial⟩
      rw [hsp] at hl0 ⊢;exact .inr (.inr ⟨by rw [hcs];exact hc0,hl0,by rw [workR_next],rfl⟩)

theorem SlR.each {α : Type} {sz : Nat} {rep : World → Nat → Nat → List Value → α → Prop} {w : World} {lo hi : Nat} {v : Value} {xs : List α} {p : α → Prop} (h : SlR sz rep w lo hi v xs) (hp : ∀ lo hi cs x,rep w lo hi cs x → p x) : ∀ x ∈ xs,p x := by
  obtain ⟨a,cap,rfl,c1,c2,hsl⟩ := h
  intro x hx
  rcases hsl with hz | ⟨b,off,rfl,b1,b2,hel⟩
  · subst hz;simp at hx
  · obtain ⟨i,hi,rfl⟩ := List.getElem_of_mem hx
    obtain ⟨cs,h1,_⟩ := hel i hi
    exact hp _ _ _ _ h1
theorem BookWf.of {x : Book} {w : World} {v0 v1 v2 : Value} (h0 : SlR 7 repChan w 0 w.heap.size v0 x.chans) (h1 : SlR 7 repHtlc w 0 w.heap.size v1 x.htlcs) (h2 : SlR 5 repCircle w 0 w.heap.size v2 x.circles) (hn : x.chans.length ≤ 1048576) : BookWf x :=
  ⟨h0.each fun _ _ _ _ h => h.2,h1.each fun _ _ _ _ h => h.2,h2.each fun _ _ _ _ h => h.2,hn⟩
def Spot (S E lo hi : Nat) (f : List Nat) : Prop := S ≤ lo ∧ lo ≤ hi ∧ hi ≤ E ∧ ((lo = E ∧ hi = E) ∨ (hi = lo + 1 ∧ lo ∈ f))
theorem Spot.none (S E : Nat) (h : S ≤ E) : Spot S E E E [] := ⟨h,Nat.le_refl _,Nat.le_refl _,.inl ⟨rfl,rfl⟩⟩
theorem Spot.apart {S E lo hi lo' hi' : Nat} {f f' : List Nat} (h : Spot S E lo hi f) (h' : Spot S E lo' hi' f') (hd : ∀ b ∈ f,b ∉ f') : hi ≤ lo' ∨ hi' ≤ lo := by
  obtain ⟨h1,h2,h3,h4⟩ := h
  obtain ⟨k1,k2,k3,k4⟩ := h'
  rcases h4 with q | ⟨q,qm⟩ <;> rcases k4 with r | ⟨r,rm⟩
  · omega
  · omega
  · omega
  · have : lo ≠ lo' := fun e => hd lo qm (e ▸ rm)
    omega
theorem OB.slr {L : Nat → Prop} {ρ : Nat → Value} {H : Nat → AO} {α : Type} {enc : α → List Value} {sz : Nat} {rep : World → Nat → Nat → List Value → α → Prop} {w : World} {v : Value} {f : List Nat} {xs : List α} {e : Pin} {S : Nat} (h : OB L ρ H w v f (.arr e sz (rowsOf enc xs))) (hs : ∀ x,(enc x).length = sz) (hrep : ∀ x ∈ xs,rep w 0 w.heap.size (enc x) x) (hfl : ∀ lo hi lo' hi' cs x,rep w lo hi cs x → rep w lo' hi' cs x) (hS : S ≤ w.heap.size) (hf : ∀ b ∈ f,S ≤ b) :
    ∃ a c lo hi,v = .slice a xs.length c ∧ SlR sz rep w lo hi (.slice a xs.length c) xs ∧ Spot S w.heap.size lo hi f := by
  have h1 := (h.reads).slr hs hrep
  have hv : f = v.ownBlock.toList := by obtain ⟨_,_,_,_,_,q,_⟩ := h;exact q
  have hlt := h.lt
  obtain ⟨a,c,rfl,c1,c2,hsl⟩ := h1
  rcases hsl with hz | ⟨b,off,rfl,b1,b2,hel⟩
  · exact ⟨a,c,w.heap.size,w.heap.size,rfl,⟨a,c,rfl,c1,c2,.inl hz⟩,hS,Nat.le_refl _,Nat.le_refl _,.inl ⟨rfl,rfl⟩⟩
  · have hb : b ∈ f := by rw [hv];simp [Value.ownBlock]
    exact ⟨_,c,b,b + 1,rfl,⟨_,c,rfl,c1,c2,.inr ⟨b,off,rfl,Nat.le_refl _,Nat.lt_succ_self _,fun i hi => let ⟨cs,q1,q2⟩ := hel i hi;⟨cs,hfl _ _ _ _ _ _ q1,q2⟩⟩⟩,hf b hb,Nat.le_succ _,b2,.inr ⟨rfl,hb⟩⟩
def zeroBook : Book := ⟨0,0,0,[],[],[]⟩
def appB (x : Book) (e : Event) : Book := if applyC x e = 0 then (if (workR x e).l = [] then (workR x e).b else { (workR x e).b with next := (workR x e).b.next + 1 }) else zeroBook
def appP (x : Book) (e : Event) : Posting := if applyC x e = 0 then (if (workR x e).l = [] then ⟨0,[]⟩ else ⟨x.next,(workR x e).l⟩) else ⟨0,[]⟩
theorem appB_no {x : Book} {e : Event} (h : applyC x e ≠ 0) : appB x e = zeroBook ∧ appP x e = ⟨0,[]⟩ := by unfold appB appP;rw [if_neg h,if_neg h];exact ⟨rfl,rfl⟩
theorem appB_nil {x : Book} {e : Event} (h : applyC x e = 0) (h2 : (workR x e).l = []) : appB x e = (workR x e).b ∧ appP x e = ⟨0,[]⟩ := by unfold appB appP;rw [if_pos h,if_pos h,if_pos h2,if_pos h2];exact ⟨rfl,rfl⟩
theorem appB_yes {x : Book} {e : Event} (h : applyC x e = 0) (h2 : (workR x e).l ≠ []) : appB x e = { (workR x e).b with next := (workR x e).b.next + 1 } ∧ appP x e = ⟨x.next,(workR x e).l⟩ := by unfold appB appP;rw [if_pos h,if_pos h,if_neg h2,if_neg h2];exact ⟨rfl,rfl⟩
structure WrWf (r : WR) : Prop where
  chans : ∀ c ∈ r.b.chans,wfChan c
  htlcs : ∀ c ∈ r.b.htlcs,wfHtlc c
  circles : ∀ c ∈ r.b.circles,wfCircle c
  lines : ∀ l ∈ r.l,wfLine l
  lc : r.b.chans.length ≤ 100000
  lh : r.b.htlcs.length ≤ 100000
  li : r.b.circles.length ≤ 100000
  ll : r.l.length ≤ 100000
theorem rv_agg {L : Nat → Prop} {ρ : Nat → Value} {H : Nat → AO} {w : World} {l : List AV} {c : Value} (h : RV L ρ H w (.agg l) c) : ∃ cs,c = .agg cs.toArray ∧ RVL L ρ H w l cs := by rw [RV] at h;exact h
theorem rv_tup {L : Nat → Prop} {ρ : Nat → Value} {H : Nat → AO} {w : World} {l : List AV} {c : Value} (h : RV L ρ H w (.tup l) c) : ∃ cs,c = .tuple cs.toArray ∧ RVL L ρ H w l cs := by rw [RV] at h;exact h
theorem rv_own {L : Nat → Prop} {ρ : Nat → Value} {H : Nat → AO} {w : World} {id : Nat} {c : Value} (h : RV L ρ H w (.own id) c) (hh : (H id).here = true) : c = ρ id := by rw [RV] at h;exact h.2 hh

def chB (n : Int) (c : Chan) : Prop := (i64 c.id ∧ i64 c.size) ∧ (-n ≤ c.loc ∧ c.loc ≤ n) ∧ (-n ≤ c.remote ∧ c.remote ≤ n) ∧ (-n ≤ c.base ∧ c.base ≤ n) ∧ (-n ≤ c.ppm ∧ c.ppm ≤ n) ∧ (-n ≤ c.score ∧ c.score ≤ n)
theorem chB.wf {n : Int} {c : Chan} (h : chB n c) (hn : n ≤ 9007199254740992) : wfChan c := by
  obtain ⟨⟨h1,h2⟩,h3,h4,h5,h6,h7⟩ := h
  unfold wfChan
  refine ⟨h1,h2,?_,?_,?_,?_,?_⟩ <;> unfold i64 <;> omega
theorem chB.put {n m : Int} {c c' : Chan} (h : chB n c) (h1 : c'.id = c.id) (h2 : c'.size = c.size) (h3 : (-m ≤ c'.loc ∧ c'.loc ≤ m) ∧ (-m ≤ c'.remote ∧ c'.remote ≤ m) ∧ (-m ≤ c'.base ∧ c'.base ≤ m) ∧ (-m ≤ c'.ppm ∧ c'.ppm ≤ m) ∧ (-m ≤ c'.score ∧ c'.score ≤ m)) : chB m c' := ⟨⟨h1 ▸ h.1.1,h2 ▸ h.1.2⟩,h3⟩
theorem chB.mono {n m : Int} {c : Chan} (h : chB n c) (hn : n ≤ m) : chB m c := by
  refine h.put rfl rfl ?_
  have := h.2
  omega
theorem scoreUp_le (n : Int) : -100 ≤ scoreUp n ∧ scoreUp n ≤ 100 := by unfold scoreUp;split <;> omega
theorem scoreDown_le (n : Int) : -100 ≤ scoreDown n ∧ scoreDown n ≤ 100 := by unfold scoreDown;split <;> omega
theorem fade_le (n : Int) : -100 ≤ fade n ∧ fade n ≤ 100 := by unfold fade;repeat' split <;> omega
theorem upd_all {p q : Chan → Prop} {l : List Chan} {a : Int} {f : Chan → Chan} (h : ∀ c ∈ l,p c) (hf : ∀ c,p c → q (f c)) (hq : ∀ c,p c → q c) : ∀ c ∈ updC l a f,q c := fun c hc => by
  unfold updC at hc
  obtain ⟨d,hd,rfl⟩ := List.mem_map.1 hc
  split
  · exact hf d (h d hd)
  · exact hq d (h d hd)
theorem upd_len {l : List Chan} {a : Int} {f : Chan → Chan} : (updC l a f).length = l.length := List.length_map _
theorem lines_add {l : List Line} {k c n : Int} (h : ∀ y ∈ l,wfLine y) (hk : i64 k) (hc : i64 c) (hn : i64 n) : ∀ y ∈ addL l k c n,wfLine y := fun y hy => by
  rcases mem_addL hy with q | ⟨q1,q2,q3⟩
  · exact h y q
  · unfold wfLine
    rw [q1,q2,q3]
    exact ⟨hk,hc,hn⟩
theorem addL_len (l : List Line) (k c n : Int) : (addL l k c n).length ≤ l.length + 1 := by
  unfold addL
  split
  · omega
  · rw [insL_length];omega
theorem nil_lines : ∀ y ∈ ([] : List Line),wfLine y := by simp
theorem mem_insC {l : List Chan} {c d : Chan} (h : d ∈ insC l c) : d ∈ l ∨ d = c := by
  unfold insC at h
  simp only [List.mem_append,List.mem_singleton] at h
  rcases h with (h | h) | h
  · exact .inl (List.mem_of_mem_take h)
  · exact .inr h
  · exact .inl (List.mem_of_mem_drop h)
theorem insC_len (l : List Chan) (c : Chan) : (insC l c).length = l.length + 1 := by
  unfold insC
  simp only [List.length_append,List.length_take,List.length_drop,List.length_singleton]
  have : posC l c.id ≤ l.length := List.findIdx_le_length
  omega
theorem WrWf.same {x : Book} (hw : BookWf x) (sm : BookSm x) (c : Int) : WrWf ⟨x,[],c⟩ := ⟨hw.chans,hw.htlcs,hw.circles,nil_lines,by have := sm.lc;show x.chans.length ≤ _;omega,by have := sm.lh;show x.htlcs.length ≤ _;omega,by have := sm.li;show x.circles.length ≤ _;omega,by simp⟩
theorem chB.of {x : Book} (hw : BookWf x) (sm : BookSm x) : ∀ c ∈ x.chans,chB 1125899906842624 c := fun c hc => by
  have h1 := hw.chans c hc
  have h2 := sm.chans c hc
  unfold wfChan at h1
  unfold A50 at h2
  exact ⟨⟨h1.1,h1.2.1⟩,h2.1,h2.2.1,h2.2.2.2.1,h2.2.2.2.2,h2.2.2.1⟩
theorem upd_one {x : Book} {a n : Int} {f : Chan → Chan} (hw : BookWf x) (sm : BookSm x) (hf : ∀ c,chB 1125899906842624 c → chB 4503599627370496 (f c)) : ∀ c ∈ updC x.chans a f,wfChan c := fun c hc =>
  (upd_all (q := chB 4503599627370496) (chB.of hw sm) hf (fun c h => h.mono (by omega)) c hc).wf (by omega)
theorem upd_both {x : Book} {a b : Int} {f g : Chan → Chan} (hw : BookWf x) (sm : BookSm x) (hf : ∀ c,chB 1125899906842624 c → chB 4503599627370496 (f c)) (hg : ∀ c,chB 4503599627370496 c → chB 9007199254740992 (g c)) : ∀ c ∈ updC (updC x.chans a f) b g,wfChan c := fun c hc =>
  (upd_all (q := chB 9007199254740992) (upd_all (q := chB 4503599627370496) (chB.of hw sm) hf (fun c h => h.mono (by omega))) hg (fun c h => h.mono (by omega)) c hc).wf (by omega)
theorem i64_50 {n : Int} (h : A50 n) : i64 n := by unfold A50 at h;unfold i64;omega
theorem wr_dep {x : Book} {e : Event} (hw : BookWf x) (sm : BookSm x) (es : EvSm e) : WrWf (depR x e) := by
  have h := WrWf.same hw sm 0
  refine ⟨h.chans,h.htlcs,h.circles,lines_add (lines_add nil_lines (by (unfold i64;first | omega | (dsimp only;omega))) (by (unfold i64;first | omega | (dsimp only;omega))) (i64_50 es.amt)) (by (unfold i64;first | omega | (dsimp only;omega))) (by (unfold i64;first | omega | (dsimp only;omega))) (by have := es.amt;unfold A50 at this;unfold i64;omega),h.lc,h.lh,h.li,?_⟩
  have h1 := addL_len (addL [] 1 0 e.amt) 2 0 (-e.amt)
  have h2 := addL_len [] 1 0 e.amt
  show (addL (addL [] 1 0 e.amt) 2 0 (-e.amt)).length ≤ _
  simp at h2
  omega
theorem two_len (a b c d f g : Int) : (addL (addL [] a b c) d f g).length ≤ 100000 := by
  have h1 := addL_len (addL [] a b c) d f g
  have h2 := addL_len [] a b c
  simp at h2
  omega
theorem three_len (a b c d f g h i j : Int) : (addL (addL (addL [] a b c) d f g) h i j).length ≤ 100000 := by
  have h0 := addL_len (addL (addL [] a b c) d f g) h i j
  have h1 := addL_len (addL [] a b c) d f g
  have h2 := addL_len [] a b c
  simp at h2
  omega
theorem wr_open {x : Book} {e : Event} (hw : BookWf x) (sm : BookSm x) (es : EvSm e) (we : wfEvent e) : WrWf (openR x e) := by
  have h := WrWf.same hw sm 0
  have ha := es.amt
  have hf := es.fee
  by_cases q : openC x e = 0
  · rw [openR_yes q]
    refine ⟨fun c hc => ?_,h.htlcs,h.circles,lines_add (lines_add nil_lines (by (unfold i64;first | omega | (dsimp only;omega))) we.2.2.1 (i64_50 ha)) (by (unfold i64;first | omega | (dsimp only;omega))) (by (unfold i64;first | omega | (dsimp only;omega))) (by unfold A50 at ha;unfold i64;omega),?_,h.lh,h.li,two_len _ _ _ _ _ _⟩
    · rcases mem_insC hc with hc | rfl
      · exact h.chans c hc
      · unfold A50 at ha hf
        unfold wfChan
        refine ⟨we.2.2.1,?_,?_,?_,by (unfold i64;first | omega | (dsimp only;omega)),by (unfold i64;first | omega | (dsimp only;omega)),by (unfold i64;first | omega | (dsimp only;omega))⟩ <;> unfold i64 <;> dsimp only <;> omega
    · show (insC x.chans _).length ≤ _
      rw [insC_len]
      have := sm.lc
      omega
  · rw [openR_no q];exact WrWf.same hw sm _
theorem chanOr_A50 {x : Book} (sm : BookSm x) (ch : Int) : A50 (chanOr x.chans ch).loc ∧ A50 (chanOr x.chans ch).remote := by
  rcases chan_find x.chans ch with ⟨_,q⟩ | ⟨i,c,_,q1,q2,_⟩
  · rw [q];unfold zeroChan A50;simp
  · rw [q2]
    have := sm.chans c (mem_of_get q1)
    exact ⟨this.1,this.2.1⟩
theorem wr_shut {x : Book} {e : Event} (hw : BookWf x) (sm : BookSm x) (es : EvSm e) (we : wfEvent e) : WrWf (shutR x e) := by
  have h := WrWf.same hw sm 0
  have hf := es.fee
  have hl := (chanOr_A50 sm e.ch).1
  by_cases q : shutC x e = 0
  · rw [shutR_yes q]
    unfold shutY
    refine ⟨fun c hc => h.chans c ((List.mem_filter.1 hc).1),h.htlcs,h.circles,lines_add (lines_add (lines_add nil_lines (by (unfold i64;first | omega | (dsimp only;omega))) (by (unfold i64;first | omega | (dsimp only;omega))) ?_) (by (unfold i64;first | omega | (dsimp only;omega))) (by (unfold i64;first | omega | (dsimp only;omega))) (i64_50 hf)) (by (unfold i64;first | omega | (dsimp only;omega))) we.2.2.1 ?_,?_,h.lh,h.li,three_len _ _ _ _ _ _ _ _ _⟩
    · unfold A50 at hf hl;unfold i64;omega
    · unfold A50 at hf hl;unfold i64;omega
    · have h1 : (delC x.chans e.ch).length ≤ x.chans.length := List.length_filter_le _ _
      have := sm.lc
      show (delC x.chans e.ch).length ≤ _
      omega
  · rw [shutR_no q];exact WrWf.same hw sm _
theorem len_upd1 {x : Book} (sm : BookSm x) {a : Int} {f : Chan → Chan} : (updC x.chans a f).length ≤ 100000 := by rw [upd_len];have := sm.lc;omega
theorem len_upd2 {x : Book} (sm : BookSm x) {a b : Int} {f g : Chan → Chan} : (updC (updC x.chans a f) b g).length ≤ 100000 := by rw [upd_len,upd_len];have := sm.lc;omega
theorem wr_pri {x : Book} {e : Event} (hw : BookWf x) (sm : BookSm x) (es : EvSm e) : WrWf (priR x e) := by
  have h := WrWf.same hw sm 0
  have ha := es.amt
  have hf := es.fee
  unfold A50 at ha hf
  unfold priR
  split
  · exact WrWf.same hw sm _
  · refine ⟨upd_one (n := 0) hw sm (fun c hc => ?_),h.htlcs,h.circles,nil_lines,len_upd1 sm,h.lh,h.li,h.ll⟩
    refine chB.put hc rfl rfl ?_
    have := hc.2
    dsimp only at *
    omega
theorem wr_adm {x : Book} {e : Event} (hw : BookWf x) (sm : BookSm x) (es : EvSm e) (we : wfEvent e) : WrWf (admR x e) := by
  have h := WrWf.same hw sm 0
  have ha := es.amt
  have hs : A50 (admSum x e) := addV_A50 _ _
  unfold A50 at ha hs
  by_cases q : admC x e = 0
  · rw [admR_yes q]
    unfold admY
    refine ⟨upd_both hw sm (fun c hc => ?_) (fun c hc => ?_),fun c hc => ?_,h.circles,lines_add (lines_add nil_lines (by (unfold i64;first | omega | (dsimp only;omega))) we.2.2.2.1 ?_) (by (unfold i64;first | omega | (dsimp only;omega))) we.2.2.2.1 (i64_50 es.amt),len_upd2 sm,?_,h.li,two_len _ _ _ _ _ _⟩
    · refine chB.put hc rfl rfl ?_;have := hc.2;dsimp only at *;omega
    · refine chB.put hc rfl rfl ?_;have := hc.2;dsimp only at *;omega
    · rcases List.mem_append.1 hc with hc | hc
      · exact h.htlcs c hc
      · rw [List.mem_singleton] at hc
        subst hc
        unfold wfHtlc
        refine ⟨we.2.1,we.2.2.1,we.2.2.2.1,?_,?_,by (unfold i64;first | omega | (dsimp only;omega))⟩ <;> unfold i64 <;> dsimp only <;> omega
    · unfold i64;omega
    · have := sm.lh
      simp
      omega
  · rw [admR_no q];exact WrWf.same hw sm _
theorem wr_set {x : Book} {e : Event} (hw : BookWf x) (sm : BookSm x) : WrWf (setR x e) := by
  have h := WrWf.same hw sm 0
  unfold setR
  split
  · rename_i y hy
    have hm := List.mem_of_find?_eq_some hy
    have w1 := hw.htlcs y hm
    have s1 := sm.htlcs y hm
    unfold wfHtlc at w1
    have hdl : (delH x.htlcs y.key).length ≤ 100000 := by
      have h1 : (delH x.htlcs y.key).length ≤ x.htlcs.length := List.length_filter_le _ _
      have := sm.lh
      omega
    have hdm : ∀ c ∈ delH x.htlcs y.key,wfHtlc c := fun c hc => h.htlcs c ((List.mem_filter.1 hc).1)
    unfold A50 at s1
    unfold setY
    split
    · refine ⟨upd_both hw sm (fun c hc => ?_) (fun c hc => ?_),hdm,h.circles,lines_add (lines_add (lines_add nil_lines (by (unfold i64;first | omega | (dsimp only;omega))) (by (unfold i64;first | omega | (dsimp only;omega))) ?_) (by (unfold i64;first | omega | (dsimp only;omega))) w1.2.1 w1.2.2.2.1) (by (unfold i64;first | omega | (dsimp only;omega))) w1.2.2.1 ?_,len_upd2 sm,hdl,h.li,three_len _ _ _ _ _ _ _ _ _⟩
      · have := scoreUp_le c.score;refine chB.put hc rfl rfl ?_;have := hc.2;dsimp only at *;omega
      · refine chB.put hc rfl rfl ?_;have := hc.2;dsimp only at *;omega
      · unfold i64;omega
      · unfold i64;omega
    · refine ⟨upd_both hw sm (fun c hc => ?_) (fun c hc => ?_),hdm,h.circles,lines_add (lines_add nil_lines (by (unfold i64;first | omega | (dsimp only;omega))) w1.2.2.1 ?_) (by (unfold i64;first | omega | (dsimp only;omega))) w1.2.2.1 ?_,len_upd2 sm,hdl,h.li,two_len _ _ _ _ _ _⟩
      · have := scoreDown_le c.score;refine chB.put hc rfl rfl ?_;have := hc.2;dsimp only at *;omega
      · refine chB.put hc rfl rfl ?_;have := hc.2;dsimp only at *;omega
      · unfold i64;omega
      · unfold i64;omega
  · exact WrWf.same hw sm _
theorem wr_tick {x : Book} (hw : BookWf x) (sm : BookSm x) : WrWf (tickR x) := by
  have h := WrWf.same hw sm 0
  refine ⟨fun c hc => ?_,fun c hc => ?_,h.circles,nil_lines,?_,?_,h.li,h.ll⟩
  · obtain ⟨d,hd,rfl⟩ := List.mem_map.1 hc
    unfold fadeC
    split
    · have h1 := h.chans d hd
      have h2 := fade_le d.score
      unfold wfChan at *
      refine ⟨h1.1,h1.2.1,h1.2.2.1,h1.2.2.2.1,h1.2.2.2.2.1,h1.2.2.2.2.2.1,?_⟩
      unfold i64;dsimp only;omega
    · exact h.chans d hd
  · obtain ⟨d,hd,rfl⟩ := List.mem_map.1 hc
    have h1 := h.htlcs d hd
    have h2 := sm.htlcs d hd
    unfold wfHtlc ageH at *
    refine ⟨h1.1,h1.2.1,h1.2.2.1,h1.2.2.2.1,h1.2.2.2.2.1,?_⟩
    unfold i64;dsimp only;omega
  · show (x.chans.map _).length ≤ _
    rw [List.length_map];exact h.lc
  · show (x.htlcs.map _).length ≤ _
    rw [List.length_map];exact h.lh
theorem wr_lau {x : Book} {e : Event} (hw : BookWf x) (sm : BookSm x) (es : EvSm e) (we : wfEvent e) : WrWf (lauR x e) := by
  have h := WrWf.same hw sm 0
  have ha := es.amt
  have hf := es.fee
  have hs : A50 (addV e.amt e.fee) := addV_A50 _ _
  unfold A50 at ha hs hf
  by_cases q : lauC x e = 0
  · rw [lauR_yes q]
    unfold lauY
    refine ⟨upd_both hw sm (fun c hc => ?_) (fun c hc => ?_),h.htlcs,fun c hc => ?_,lines_add (lines_add nil_lines (by (unfold i64;first | omega | (dsimp only;omega))) we.2.2.1 ?_) (by (unfold i64;first | omega | (dsimp only;omega))) we.2.2.1 ?_,len_upd2 sm,h.lh,?_,two_len _ _ _ _ _ _⟩
    · refine chB.put hc rfl rfl ?_;have := hc.2;dsimp only at *;omega
    · refine chB.put hc rfl rfl ?_;have := hc.2;dsimp only at *;omega
    · rcases List.mem_append.1 hc with hc | hc
      · exact h.circles c hc
      · rw [List.mem_singleton] at hc
        subst hc
        unfold wfCircle
        refine ⟨we.2.1,we.2.2.1,we.2.2.2.1,?_,?_⟩ <;> unfold i64 <;> dsimp only <;> omega
    · unfold i64;omega
    · unfold i64;omega
    · have := sm.li
      simp
      omega
  · rw [lauR_no q];exact WrWf.same hw sm _
theorem wr_land {x : Book} {e : Event} (hw : BookWf x) (sm : BookSm x) : WrWf (landR x e) := by
  have h := WrWf.same hw sm 0
  unfold landR
  split
  · rename_i y hy
    have hm := List.mem_of_find?_eq_some hy
    have w1 := hw.circles y hm
    have s1 := sm.circles y hm
    unfold wfCircle at w1
    have hdl : (delI x.circles y.key).length ≤ 100000 := by
      have h1 : (delI x.circles y.key).length ≤ x.circles.length := List.length_filter_le _ _
      have := sm.li
      omega
    have hdm : ∀ c ∈ delI x.circles y.key,wfCircle c := fun c hc => h.circles c ((List.mem_filter.1 hc).1)
    unfold A50 at s1
    unfold landY
    split
    · refine ⟨upd_both hw sm (fun c hc => ?_) (fun c hc => ?_),h.htlcs,hdm,lines_add (lines_add (lines_add nil_lines (by (unfold i64;first | omega | (dsimp only;omega))) (by (unfold i64;first | omega | (dsimp only;omega))) w1.2.2.2.2) (by (unfold i64;first | omega | (dsimp only;omega))) w1.2.2.1 w1.2.2.2.1) (by (unfold i64;first | omega | (dsimp only;omega))) w1.2.1 ?_,len_upd2 sm,h.lh,hdl,three_len _ _ _ _ _ _ _ _ _⟩
      · refine chB.put hc rfl rfl ?_;have := hc.2;dsimp only at *;omega
      · refine chB.put hc rfl rfl ?_;have := hc.2;dsimp only at *;omega
      · unfold i64;omega
    · refine ⟨upd_both hw sm (fun c hc => ?_) (fun c hc => ?_),h.htlcs,hdm,lines_add (lines_add nil_lines (by (unfold i64;first | omega | (dsimp only;omega))) w1.2.1 ?_) (by (unfold i64;first | omega | (dsimp only;omega))) w1.2.1 ?_,len_upd2 sm,h.lh,hdl,two_len _ _ _ _ _ _⟩
      · refine chB.put hc rfl rfl ?_;have := hc.2;dsimp only at *;omega
      · refine chB.put hc rfl rfl ?_;have := hc.2;dsimp only at *;omega
      · unfold i64;omega
      · unfold i64;omega
  · exact WrWf.same hw sm _
theorem wr_work {x : Book} {e : Event} (hw : BookWf x) (sm : BookSm x) (es : EvSm e) (we : wfEvent e) : WrWf (workR x e) := by
  unfold workR
  repeat' split
  · exact wr_dep hw sm es
  · exact wr_open hw sm es we
  · exact wr_shut hw sm es we
  · exact wr_pri hw sm es
  · exact wr_adm hw sm es we
  · exact wr_set hw sm
  · exact wr_tick hw sm
  · exact wr_lau hw sm es we
  · exact wr_land hw sm
theorem applyC_ok {x : Book} {e : Event} (h : applyC x e = 0) : bookOk x = true ∧ eventOk e = true ∧ overB x e = false := by
  unfold applyC at h
  split at h
  · rename_i q
    rw [Bool.and_eq_true] at q
    split at h
    · omega
    · rename_i r
      exact ⟨q.1,q.2,by simpa using r⟩
  · omega
theorem wr_apply {x : Book} {e : Event} (hw : BookWf x) (we : wfEvent e) (h : applyC x e = 0) : WrWf (workR x e) := by
  obtain ⟨h1,h2,_⟩ := applyC_ok h
  exact wr_work hw (bookOk_fi h1).sm (evSm_of h2).1 we

abbrev appAV (x : Book) (e : Event) : AV := .tup [.agg [int (appB x e).tick,int (appB x e).next,int (appB x e).wallet,.own 11,.own 12,.own 13],.agg [int (appP x e).id,.own 14],int (applyC x e)]
abbrev appOb (x : Book) (e : Event) : List (Nat × AO) := [(11,.arr 40 7 (rowsOf encChan (appB x e).chans)),(12,hAr (appB x e).htlcs),(13,iAr (appB x e).circles),(14,lAr (appP x e).lines)]
def OBF (w : World) (v : Value) (f : List Nat) (o : AO) : Prop := ∀ (L : Nat → Prop) (ρ : Nat → Value) (H : Nat → AO),OB L ρ H w v f o
theorem OBF.of {L : Nat → Prop} {ρ : Nat → Value} {H : Nat → AO} {w : World} {v : Value} {f : List Nat} {α : Type} {enc : α → List Value} {e : TypeId} {sz : Nat} {l : List α} (h : OB L ρ H w v f (.arr ⟨e,none⟩ sz (rowsOf enc l))) : OBF w v f (.arr ⟨e,none⟩ sz (rowsOf enc l)) := fun L' ρ' H' => by
  obtain ⟨xs,fr,k1,k2,k3,k4,k5⟩ := h
  have hfr := k1.flat_fp flat_rowsOf
  subst hfr
  exact ⟨xs,[],k1,by simp,k3,k4,k5⟩
theorem OBF.nil {w : World} {e : TypeId} {sz : Nat} : OBF w (.slice none 0 0) [] (.arr ⟨e,none⟩ sz []) := fun L ρ H => ⟨[],[],by simp [RWR],by simp,World.ownsRow_nil _ _ _ _,rfl,fun u hu => by cases hu⟩
theorem rv_own1 {L : Nat → Prop} {ρ : Nat → Value} {H : Nat → AO} {w : World} {id : Nat} {c : Value} (h : RV L ρ H w (.own id) c) : c.oneCell' = true := by rw [RV] at h;exact h.1
theorem rv_own_mk {L : Nat → Prop} {ρ : Nat → Value} {H : Nat → AO} {w : World} {id : Nat} {c : Value} (h : c.oneCell' = true) (h2 : c = ρ id) : RV L ρ H w (.own id) c := by rw [RV];exact ⟨h,fun _ => h2⟩
theorem app_key {x : Book} {e : Event} {L : Nat → Prop} {w' : World} {y : AV} {ob1 : List (Nat × AO)} {v : Value} {ρ' : Nat → Value} {fp' : Nat → List Nat} (hR : appR x e y ob1) (g2 : RV L ρ' (ofO ob1) w' y v) (g3 : ∀ i,OB L ρ' (ofO ob1) w' (ρ' i) (fp' i) (ofO ob1 i)) :
    ∃ v1 v2 v3 v4 : Value,∃ k1 k2 k3 k4 : Bool,v = .tuple #[.agg #[.int .i64 (appB x e).tick,.int .i64 (appB x e).next,.int .i64 (appB x e).wallet,v1,v2,v3],.agg #[.int .i64 (appP x e).id,v4],.int .i64 (applyC x e)] ∧ (v1.oneCell' = true ∧ v2.oneCell' = true ∧ v3.oneCell' = true ∧ v4.oneCell' = true) ∧
      OBF w' v1 (if k1 then fp' 1 else []) (.arr 40 7 (rowsOf encChan (appB x e).chans)) ∧ OBF w' v2 (if k2 then fp' 2 else []) (hAr (appB x e).htlcs) ∧ OBF w' v3 (if k3 then fp' 3 else []) (iAr (appB x e).circles) ∧ OBF w' v4 (if k4 then fp' 4 else []) (lAr (appP x e).lines) := by
  rcases hR with ⟨h0,rfl,rfl⟩ | ⟨h0,hl,rfl,rfl⟩ | ⟨h0,hl,rfl,rfl⟩
  · obtain ⟨e1,e2⟩ := appB_no h0
    obtain ⟨cs,rfl,g⟩ := rv_tup g2
    simp only [RVL] at g
    obtain ⟨v1,_,rfl,k1,v2,_,rfl,k2,v3,_,rfl,k3,rfl⟩ := g
    obtain ⟨cs,rfl,g⟩ := rv_agg k1
    simp only [RVL] at g
    obtain ⟨u1,_,rfl,j1,u2,_,rfl,j2,u3,_,rfl,j3,u4,_,rfl,j4,u5,_,rfl,j5,u6,_,rfl,j6,rfl⟩ := g
    obtain ⟨cs,rfl,g⟩ := rv_agg k2
    simp only [RVL] at g
    obtain ⟨t1,_,rfl,i1,t2,_,rfl,i2,rfl⟩ := g
    rw [j1.v_eq,j2.v_eq,j3.v_eq,j4.v_eq,j5.v_eq,j6.v_eq,i1.v_eq,i2.v_eq,k3.v_eq]
    refine ⟨_,_,_,_,false,false,false,false,by rw [e1,e2];rfl,⟨rfl,rfl,rfl,rfl⟩,?_⟩
    rw [e1,e2]
    exact ⟨OBF.nil,OBF.nil,OBF.nil,OBF.nil⟩
  · obtain ⟨e1,e2⟩ := appB_nil h0 hl
    obtain ⟨cs,rfl,g⟩ := rv_tup g2
    simp only [RVL] at g
    obtain ⟨v1,_,rfl,k1,v2,_,rfl,k2,v3,_,rfl,k3,rfl⟩ := g
    obtain ⟨cs,rfl,g⟩ := rv_agg k1
    simp only [RVL] at g
    obtain ⟨u1,_,rfl,j1,u2,_,rfl,j2,u3,_,rfl,j3,u4,_,rfl,j4,u5,_,rfl,j5,u6,_,rfl,j6,rfl⟩ := g
    obtain ⟨cs,rfl,g⟩ := rv_agg k2
    simp only [RVL] at g
    obtain ⟨t1,_,rfl,i1,t2,_,rfl,i2,rfl⟩ := g
    rw [j1.v_eq,j2.v_eq,j3.v_eq,i1.v_eq,i2.v_eq,k3.v_eq]
    refine ⟨_,_,_,_,true,true,true,false,by rw [e1,e2,h0],⟨rv_own1 j4,rv_own1 j5,rv_own1 j6,rfl⟩,?_⟩
    rw [e1,e2,rv_own j4 rfl,rv_own j5 rfl,rv_own j6 rfl]
    exact ⟨OBF.of (g3 1),OBF.of (g3 2),OBF.of (g3 3),OBF.nil⟩
  · obtain ⟨e1,e2⟩ := appB_yes h0 hl
    obtain ⟨cs,rfl,g⟩ := rv_tup g2
    simp only [RVL] at g
    obtain ⟨v1,_,rfl,k1,v2,_,rfl,k2,v3,_,rfl,k3,rfl⟩ := g
    obtain ⟨cs,rfl,g⟩ := rv_agg k1
    simp only [RVL] at g
    obtain ⟨u1,_,rfl,j1,u2,_,rfl,j2,u3,_,rfl,j3,u4,_,rfl,j4,u5,_,rfl,j5,u6,_,rfl,j6,rfl⟩ := g
    obtain ⟨cs,rfl,g⟩ := rv_agg k2
    simp only [RVL] at g
    obtain ⟨t1,_,rfl,i1,t2,_,rfl,i2,rfl⟩ := g
    rw [j1.v_eq,j2.v_eq,j3.v_eq,i1.v_eq,k3.v_eq]
    refine ⟨_,_,_,_,true,true,true,true,by rw [e1,e2,h0],⟨rv_own1 j4,rv_own1 j5,rv_own1 j6,rv_own1 i2⟩,?_⟩
    rw [e1,e2,rv_own j4 rfl,rv_own j5 rfl,rv_own j6 rfl,rv_own i2 rfl]
    exact ⟨OBF.of (g3 1),OBF.of (g3 2),OBF.of (g3 3),OBF.of (g3 4)⟩
theorem app_gc {f : FuncId} {x : Book} {e : Event} (hc : GX Tryz.prog f [bookV x,evV e] [] (appR x e)) : GC Tryz.prog f [bookV x,evV e] [] (appAV x e) (appOb x e) := by
  intro L w cs ρ fp hL hargs hob hdj hLf
  refine Calls.mono (hc L w cs ρ fp hL hargs hob hdj hLf) ?_
  rintro r w' ⟨y,ob1,hR,v,ρ',fp',rfl,g1,g2,g3,g4,g5⟩
  obtain ⟨v1,v2,v3,v4,k1,k2,k3,k4,rfl,⟨o1,o2,o3,o4⟩,b1,b2,b3,b4⟩ := app_key hR g2 g3
  have hsub : ∀ (k : Bool) i,∀ b ∈ (if k then fp' i else []),b ∈ fp' i := fun k i b hb => by cases k <;> simp_all
  refine ⟨_,_,⟨rfl,rfl⟩,_,(fun i => if i = 11 then v1 else if i = 12 then v2 else if i = 13 then v3 else if i = 14 then v4 else undef),(fun i => if i = 11 then (if k1 then fp' 1 else []) else if i = 12 then (if k2 then fp' 2 else []) else if i = 13 then (if k3 then fp' 3 else []) else if i = 14 then (if k4 then fp' 4 else []) else []),rfl,g1,?_,fun i => ?_,fun i j hij b hb hb' => ?_,fun i b hb => ?_⟩
  · rw [RV]
    refine ⟨[_,_,_],rfl,?_⟩
    simp only [RVL]
    refine ⟨_,_,rfl,?_,_,_,rfl,?_,_,_,rfl,RV.v_mk rfl,rfl⟩
    · rw [RV]
      refine ⟨[_,_,_,_,_,_],rfl,?_⟩
      simp only [RVL]
      exact ⟨_,_,rfl,RV.v_mk rfl,_,_,rfl,RV.v_mk rfl,_,_,rfl,RV.v_mk rfl,_,_,rfl,rv_own_mk o1 rfl,_,_,rfl,rv_own_mk o2 rfl,_,_,rfl,rv_own_mk o3 rfl,rfl⟩
    · rw [RV]
      refine ⟨[_,_],rfl,?_⟩
      simp only [RVL]
      exact ⟨_,_,rfl,RV.v_mk rfl,_,_,rfl,rv_own_mk o4 rfl,rfl⟩
  · by_cases h1 : i = 11
    · subst h1;exact b1 _ _ _
    by_cases h2 : i = 12
    · subst h2;exact b2 _ _ _
    by_cases h3 : i = 13
    · subst h3;exact b3 _ _ _
    by_cases h4 : i = 14
    · subst h4;exact b4 _ _ _
    simp only [if_neg h1,if_neg h2,if_neg h3,if_neg h4,ofO]
    rfl
  · have key : ∀ i b,b ∈ (if i = 11 then (if k1 then fp' 1 else []) else if i = 12 then (if k2 then fp' 2 else []) else if i = 13 then (if k3 then fp' 3 else []) else if i = 14 then (if k4 then fp' 4 else []) else []) → 11 ≤ i ∧ b ∈ fp' (i - 10) := fun i b hb => by
      split at hb
      · rename_i q;subst q;exact ⟨by omega,hsub _ _ b hb⟩
      split at hb
      · rename_i q;subst q;exact ⟨by omega,hsub _ _ b hb⟩
      split at hb
      · rename_i q;subst q;exact ⟨by omega,hsub _ _ b hb⟩
      split at hb
      · rename_i q;subst q;exact ⟨by omega,hsub _ _ b hb⟩
      · cases hb
    obtain ⟨p1,p2⟩ := key i b hb
    obtain ⟨p3,p4⟩ := key j b hb'
    exact g4 (i - 10) (j - 10) (by omega) b p2 p4
  · have key : ∀ i b,b ∈ (if i = 11 then (if k1 then fp' 1 else []) else if i = 12 then (if k2 then fp' 2 else []) else if i = 13 then (if k3 then fp' 3 else []) else if i = 14 then (if k4 then fp' 4 else []) else []) → ∃ j,b ∈ fp' j := fun i b hb => by
      split at hb
      · exact ⟨1,hsub _ _ b hb⟩
      split at hb
      · exact ⟨2,hsub _ _ b hb⟩
      split at hb
      · exact ⟨3,hsub _ _ b hb⟩
      split at hb
      · exact ⟨4,hsub _ _ b hb⟩
      · cases hb
    obtain ⟨j,hj⟩ := key i b hb
    exact g5 j b hj
theorem apply_g (x : Book) (e : Event) (hw : BookWf x) : GC Tryz.prog 9 [bookV x,evV e] [] (appAV x e) (appOb x e) := app_gc (apply_e x e hw)
theorem sapply_g (x : Book) (e : Event) (hw : BookWf x) : GC Tryz.prog 10 [bookV x,evV e] [] (appAV x e) (appOb x e) := app_gc (sapply_e x e hw)
abbrev ownBk (x : Book) : AV := .agg [int x.tick,int x.next,int x.wallet,.own 1,.own 2,.own 3]
abbrev obBk (u1 u2 u3 : Value) (x : Book) : List (Nat × AO) := [(1,.arr ⟨40,some u1⟩ 7 (rowsOf encChan x.chans)),(2,.arr ⟨68,some u2⟩ 7 (rowsOf encHtlc x.htlcs)),(3,.arr ⟨78,some u3⟩ 5 (rowsOf encCircle x.circles))]
theorem appFlat (x : Book) (e : Event) : ∀ p ∈ appOb x e,flatO p.2 := fun p hp => by
  simp only [appOb,List.mem_cons,List.not_mem_nil,or_false] at hp
  rcases hp with rfl | rfl | rfl | rfl <;> exact ⟨rfl,flat_rowsOf⟩
theorem lentBk {f : FuncId} {u1 u2 u3 : Value} {x : Book} {e : Event} (hc : GC Tryz.prog f [bookV x,evV e] [] (appAV x e) (appOb x e)) : GC Tryz.prog f [ownBk x,evV e] (obBk u1 u2 u3 x) (appAV x e) (appOb x e ++ obBk u1 u2 u3 x) :=
  hc.lent rfl rfl (by intro id hid;simp [ownN,ownNL] at hid;rcases hid with rfl | rfl | rfl | rfl <;> rfl) (by intro p hp;simp [obBk] at hp;rcases hp with rfl | rfl | rfl <;> rfl) (appFlat x e) (by intro p hp;simp [obBk] at hp;rcases hp with rfl | rfl | rfl <;> rfl)

structure AllS where
  now : Book
  codes : List Int
  ps : List Posting
def allF (s : AllS) (e : Event) : AllS := ⟨if applyC s.now e = 0 then appB s.now e else s.now,s.codes ++ [applyC s.now e],if applyC s.now e = 0 ∧ (appP s.now e).lines ≠ [] then s.ps ++ [appP s.now e] else s.ps⟩
def allS (x : Book) (es : List Event) : AllS := es.foldl allF ⟨x,[],[]⟩
theorem allS_succ {x : Book} {es : List Event} {k : Nat} (h : k < es.length) : allS x (es.take (k + 1)) = allF (allS x (es.take k)) es[k] := by
  unfold allS
  rw [List.take_succ_eq_append_getElem h,List.foldl_append]
  rfl
theorem appB_wf {x : Book} {e : Event} (hw : BookWf x) (we : wfEvent e) : BookWf (appB x e) := by
  by_cases q : applyC x e = 0
  · have w := wr_apply hw we q
    have hl := w.lc
    by_cases r : (workR x e).l = []
    · rw [(appB_nil q r).1]
      exact ⟨w.chans,w.htlcs,w.circles,by omega⟩
    · rw [(appB_yes q r).1]
      exact ⟨w.chans,w.htlcs,w.circles,by show (workR x e).b.chans.length ≤ _;omega⟩
  · rw [(appB_no q).1]
    unfold zeroBook
    exact ⟨by simp,by simp,by simp,by simp⟩
theorem allF_wf {s : AllS} {e : Event} (hw : BookWf s.now) (we : wfEvent e) : BookWf (allF s e).now := by
  unfold allF
  dsimp only
  split
  · exact appB_wf hw we
  · exact hw
theorem allS_wf {x : Book} {es : List Event} (hw : BookWf x) (we : ∀ e ∈ es,wfEvent e) : ∀ k,k ≤ es.length → BookWf (allS x (es.take k)).now
  | 0,_ => by rw [List.take_zero];exact hw
  | k + 1,h => by
    rw [allS_succ (by omega)]
    exact allF_wf (allS_wf hw we k (by omega)) (we _ (List.getElem_mem _))
theorem allS_codes {x : Book} {es : List Event} : ∀ k,k ≤ es.length → (allS x (es.take k)).codes.length = k
  | 0,_ => by rw [List.take_zero];rfl
  | k + 1,h => by
    rw [allS_succ (by omega)]
    have := allS_codes (x := x) k (by omega : k ≤ es.length)
    unfold allF
    simp
    exact this
theorem allS_ps {x : Book} {es : List Event} : ∀ k,k ≤ es.length → (allS x (es.take k)).ps.length ≤ k
  | 0,_ => by rw [List.take_zero];exact Nat.le_refl _
  | k + 1,h => by
    rw [allS_succ (by omega)]
    have := allS_ps (x := x) k (by omega : k ≤ es.length)
    unfold allF
    dsimp only
    split
    · simp;omega
    · omega
theorem appP_id {x : Book} {e : Event} (hb : applyC x e = 0) : decide (0 < (appP x e).id) = !decide ((appP x e).lines = []) := by
  obtain ⟨h1,h2,h3⟩ := applyC_ok hb
  have hn := (bookOk_parts h1).2.2.1
  have := inB_true.1 hn
  by_cases r : (workR x e).l = []
  · rw [(appB_nil hb r).2];simp
  · rw [(appB_yes hb r).2]
    simp [r]
    omega
theorem allF_ok {s : AllS} {e : Event} (h : applyC s.now e = 0) : (allF s e).now = appB s.now e := if_pos h
theorem allF_no {s : AllS} {e : Event} (h : applyC s.now e ≠ 0) : (allF s e).now = s.now := if_neg h
theorem allF_ps {s : AllS} {e : Event} (h : applyC s.now e = 0) (h2 : (appP s.now e).lines ≠ []) : (allF s e).ps = s.ps ++ [appP s.now e] := if_pos ⟨h,h2⟩
theorem allF_ps1 {s : AllS} {e : Event} (h : applyC s.now e ≠ 0) : (allF s e).ps = s.ps := if_neg fun q => h q.1
theorem allF_ps2 {s : AllS} {e : Event} (h2 : (appP s.now e).lines = []) : (allF s e).ps = s.ps := if_neg fun q => q.2 h2

def rowsV (vs : List Value) (ps : List Posting) : List (List PV) := List.zipWith (fun v (p : Posting) => [.v (.int .i64 p.id),.v v]) vs ps
def famP (vs : List Value) (ps : List Posting) : List AO := List.zipWith (fun v (p : Posting) => .arr ⟨120,some v⟩ 3 (rowsOf encLine p.lines)) vs ps
theorem rowsV_len {vs : List Value} {ps : List Posting} (h : vs.length = ps.length) : (rowsV vs ps).length = ps.length := by unfold rowsV;rw [List.length_zipWith];omega
theorem famP_len {vs : List Value} {ps : List Posting} (h : vs.length = ps.length) : (famP vs ps).length = ps.length := by unfold famP;rw [List.length_zipWith];omega
theorem rowsV_app {vs : List Value} {ps : List Posting} {u : Value} {p : Posting} (h : vs.length = ps.length) : rowsV (vs ++ [u]) (ps ++ [p]) = rowsV vs ps ++ [[.v (.int .i64 p.id),.v u]] := by unfold rowsV;rw [List.zipWith_append h];rfl
theorem famP_app {vs : List Value} {ps : List Posting} {u : Value} {p : Posting} (h : vs.length = ps.length) : famP (vs ++ [u]) (ps ++ [p]) = famP vs ps ++ [.arr ⟨120,some u⟩ 3 (rowsOf encLine p.lines)] := by unfold famP;rw [List.zipWith_append h];rfl
theorem famP_row : ∀ {vs : List Value} {ps : List Posting},rowF (famP vs ps)
  | [],_ => by unfold famP;simp;exact rowF.nil
  | _ :: _,[] => by unfold famP;simp;exact rowF.nil
  | v :: vs,p :: ps => fun o ho => by
    unfold famP at ho
    rw [List.zipWith_cons_cons] at ho
    rcases List.mem_cons.1 ho with rfl | ho
    · rfl
    · exact famP_row (vs := vs) (ps := ps) o ho

def allA (x : Book) (es : List Event) : AllS := if bookOk x = true then allS x es else ⟨zeroBook,[],[]⟩
theorem allA_ok {x : Book} {es : List Event} (h : bookOk x = true) : allA x es = allS x es := if_pos h
theorem allA_no {x : Book} {es : List Event} (h : bookOk x = false) : allA x es = ⟨zeroBook,[],[]⟩ := if_neg (by simp [h])
abbrev nAr (l : List Int) : AO := .arr 3 1 (rowsOf encKey l)
abbrev bBox (x : Book) : AO := .box 27 none [int x.tick,int x.next,int x.wallet,.own 1,.own 2,.own 3]
abbrev allOb (r : AllS) (vs : List Value) : List (Nat × AO) := [(1,.arr 40 7 (rowsOf encChan r.now.chans)),(2,hAr r.now.htlcs),(3,iAr r.now.circles),(14,.arr 34 2 (rowsV vs r.ps)),(15,nAr r.codes)]
abbrev allV (r : AllS) : AV := .tup [.agg [int r.now.tick,int r.now.next,int r.now.wallet,.own 1,.own 2,.own 3],.own 14,.own 15]
def allRel (r : AllS) : AV → List (Nat × AO) → List AO → Prop := fun y l1 F1 => ∃ vs : List Value,vs.length = r.ps.length ∧ y = allV r ∧ l1 = allOb r vs ∧ F1 = famP vs r.ps
theorem sapplyAll_e (x : Book) (es : List Event) (hw : BookWf x) (we : ∀ e ∈ es,wfEvent e) (hm : es.length ≤ 1048576) : GN Tryz.prog 87 [bookV x,.p (.lst 29 7 (rowsOf encEvent es))] [] ([]) (allRel (allA x es)) := by
  refine GN.intro (rs := [.cell 4 27 (some 6),.tmp 5,.tmp 6]) Tryz.func87 rfl Tryz.ntmps87 (Nat.le_of_ble_eq_true rfl) ⟨rfl,rfl,ty.kd27,rfl,rfl,trivial⟩ rfl ?_
  intro L O w0
  refine sL<|lst (zX 2002 Z) Z<|lst (zA 2004 ty.ze27 Z) Z<|laV Z<|laV Z<|nG<|aS<|sL<|loX (.agg [vI _ _,vI _ _,vI _ _,vL _ _ _,vL _ _ _,vL _ _ _]) ty.kd27 Z<|lst (zL Tryz.func22 (spec_BookOk_e x hw) Z) Z<|luB Z<|nG ?_
  refine AW.cond rfl ?_ ?_
  · intro h1
    refine sL<|lq (rd (x := .agg [vI _ _,vI _ _,vI _ _,vV _,vV _,vV _]) (rd_build Z ty.sa27 Z Z Z) Z)<|lst (zB 2004 ty.co27 ty.inf27 Z) Z<|laV Z<|laV Z<|nG ?_
    refine AW.adoptB 1 2004 3 40 7 rfl (by decide) rfl ?_
    refine AW.adoptB 2 2004 4 68 7 rfl (by decide) rfl ?_
    refine AW.adoptB 3 2004 5 78 5 rfl (by decide) rfl ?_
    refine AW.adoptT 14 5 34 2 rfl ?_
    refine AW.adoptT 15 6 3 1 rfl ?_
    refine aR<|rT ?_
    have hbk : bookOk x = false := by simpa using h1
    rw [allA_no hbk]
    refine end_nret (F1 := []) (allV ⟨zeroBook,[],[]⟩) (allOb ⟨zeroBook,[],[]⟩ []) ?_ (by simp) rfl rfl ⟨rfl,rfl,rfl,rfl,rfl,trivial⟩ tlp
    exact ⟨[],rfl,rfl,rfl,rfl⟩
  · intro h1
    refine aK<|gT<|aS ?_
    have hbk : bookOk x = true := by simpa using h1
    have fi := bookOk_fi hbk
    have sm := fi.sm
    have hw0 := allS_wf hw we
    refine aL<|loX (.agg [vI _ _,vI _ _,vI _ _,vL _ _ _,vL _ _ _,vL _ _ _]) ty.kd27 Z<|lst (zC [(2003,1),(2008,2),(2013,3)] [1,2,3] [] Tryz.func50 (scopy_e x (by have := sm.lc;have := sm.lh;have := sm.li;omega)) (trivial) rfl rfl) Z<|lst (zA 2007 ty.ze27 rfl) rfl ?_
    refine lTt ([]) [1,4,5,6,7,20] [1,2,3,2002,2004,2007] ?_
    refine lst (zB 2007 ty.co27 ty.inf27 rfl) Z<|nA<|lst (zS 14 [] ty.el49 ty.ze34 rfl (by simp)) Z<|laO Z<|nA<|lst (zS 15 [] ty.el50 ty.ze3 rfl (by simp)) Z<|laO Z<|nG<|aS<|sL<|lmL Z<|lnI ty.sl44 Z<|lmI Z<|nG<|aB ?_
    refine AW.loopT (D := Nat × List Value) [(4,.ptr 2004 _ 0),(5,vV _),(6,vV _),(7,.ptr 2007 _ 0),(8,.own _),(9,.own _),(23,vL _ _ _),(24,vI _ _)] [(2002,.box _ _ [vI _ _,vI _ _,vI _ _,vL _ _ _,vL _ _ _,vL _ _ _]),(2004,.box _ _ [vI _ _,vI _ _,vI _ _,vV _,vV _,vV _])] (fun d => [(25,int (d.1 : Int))]) (fun d => [(2007,bBox (allS x (es.take d.1)).now),(1,.arr 40 7 (rowsOf encChan (allS x (es.take d.1)).now.chans)),(2,hAr (allS x (es.take d.1)).now.htlcs),(3,iAr (allS x (es.take d.1)).now.circles),(14,.arr 34 2 (rowsV d.2 (allS x (es.take d.1)).ps)),(15,nAr (allS x (es.take d.1)).codes)]) (fun d => famP d.2 (allS x (es.take d.1)).ps) (fun d => d.1 ≤ es.length ∧ d.2.length = (allS x (es.take d.1)).ps.length) (fun d => es.length - d.1) ((0,[])) (⟨Nat.zero_le _,by rw [List.take_zero];rfl⟩) ⟨rfl,trivial⟩ ⟨(by rw [List.take_zero];rfl),(by rw [List.take_zero];rfl),(by rw [List.take_zero];rfl),(by rw [List.take_zero];rfl),(by rw [List.take_zero];rfl),(by rw [List.take_zero];rfl),trivial⟩ ⟨rfl,rfl,rfl,rfl,rfl,rfl,rfl,rfl,trivial⟩ ⟨rfl,rfl,trivial⟩ (by rw [List.take_zero];exact tlp) ?_
    intro ⟨k,vs⟩ hI
    obtain ⟨hkl,hvl⟩ := hI
    replace hkl : k ≤ es.length := hkl
    replace hvl : vs.length = (allS x (es.take k)).ps.length := hvl
    have hfr : rowF (famP vs (allS x (es.take k)).ps) := famP_row
    refine sL<|lbB Z<|nG<|aS ?_
    refine AW.cond rfl ?_ ?_
    · intro h2
      refine aK<|gT<|aS<|aB<|sL ?_
      have hk : k < es.length := by simpa [length_rowsOf] using h2
      have hwk := hw0 k hkl
      have hlc := allS_codes (x := x) k hkl
      have hlp := allS_ps (x := x) k hkl
      refine li k ty.el44 Z (row_map hk)<|lrX (.agg [vI _ _,vI _ _,vI _ _,vI _ _,vI _ _,vI _ _,vB _]) ty.kd29 Z<|lst (zA 2011 ty.ze29 Z) Z<|lst (zB 2011 ty.co29 ty.inf29 Z) Z<|nG<|aS ?_
      refine AW.pinA 1 rfl ?_
      intro u1
      refine AW.pinA 2 rfl ?_
      intro u2
      refine AW.pinA 3 rfl ?_
      intro u3
      refine aL<|loX (.agg [vI _ _,vI _ _,vI _ _,.own _,.own _,.own _]) ty.kd27 Z<|loX (.agg [vI _ _,vI _ _,vI _ _,vI _ _,vI _ _,vI _ _,vB _]) ty.kd29 Z ?_
      refine lst (zC [(1,1),(2,2),(3,3),(11,61),(12,62),(13,63),(14,64)] [61,62,63,64] [1,2,3] Tryz.func10 (lentBk (sapply_g _ es[k] hwk)) (⟨stays.arr rfl,stays.arr rfl,stays.arr rfl,trivial⟩) rfl rfl) rfl ?_
      refine lTt (famP vs (allS x (es.take k)).ps) [4,5,6,7,8,9,23,24,25,32] [1,2,3,14,15,61,62,63,64,2002,2004,2007,2011] ?_
      refine lmX (.tup [.agg [vI _ _,vI _ _,vI _ _,.own _,.own _,.own _],.agg [vI _ _,.own _],vI _ _]) Z<|lxX (.agg [vI _ _,vI _ _,vI _ _,.own _,.own _,.own _]) Z<|lxX (.agg [vI _ _,.own _]) Z<|lxI Z<|lst (zA 2012 ty.ze27 Z) Z<|lst (zA 2013 ty.ze34 Z) Z<|lst (zB 2012 ty.co27 ty.inf27 Z) Z<|lst (zB 2013 ty.co34 ty.inf34 Z) Z<|laI Z<|nG<|aS<|sL<|lmI Z<|lbB Z<|nG ?_
      refine AW.cond rfl ?_ ?_
      · intro h3
        refine sL<|loX (.agg [vI _ _,vI _ _,vI _ _,.own _,.own _,.own _]) ty.kd27 Z<|lst (zB 2007 ty.co27 ty.inf27 Z) Z<|nA<|lf 0 ty.F34_0 Z<|loI ty.kd3 Z<|lbB Z<|nG ?_
        refine AW.cond rfl ?_ ?_
        · intro h4
          refine aTt (famP vs (allS x (es.take k)).ps) [4,5,6,7,8,9,13,14,23,24,25] [1,2,3,14,15,61,62,63,64,2002,2004,2007,2011,2012,2013] ?_
          refine AW.pinA 64 rfl ?_
          intro u64
          refine aTt (famP vs (allS x (es.take k)).ps) [4,5,6,7,8,9,13,14,23,24,25] [1,2,3,14,15,61,62,63,64,2002,2004,2007,2011,2012,2013] ?_
          refine AW.absorb 64 rfl rfl famP_row ?_
          have hrf : rowF (famP vs (allS x (es.take k)).ps ++ [.arr ⟨120,some u64⟩ 3 (rowsOf encLine (appP (allS x (es.take k)).now es[k]).lines)]) := famP_row.app (fun o ho => by rw [List.mem_singleton.1 ho];rfl)
          refine aL<|lmO Z<|loX (.agg [vI _ _,vV _]) ty.kd34 Z<|lst (zS 2044 [[.v (.int .i64 (appP (allS x (es.take k)).now es[k]).id),.v u64]] ty.el49 ty.ze34 rfl (by intro r hr;simp at hr;subst hr;rfl)) Z<|lst (zP 14 ty.el49 ty.ze34 ty.by34 rfl (Src.own rfl rfl) (by simp [rowsOf,rowsV_len hvl];omega)) Z<|laO Z<|nG<|aL<|lmO Z<|lmI Z<|lst (zS 2048 (rowsOf encKey [applyC (allS x (es.take k)).now es[k]]) ty.el50 ty.ze3 rfl) Z<|lst (zP 15 ty.el50 ty.ze3 ty.by3 rfl (Src.own rfl rfl) (by simp [rowsOf,rowsV_len hvl];omega)) Z<|laO Z<|lN<|gB<|gT ?_
          have hc0 : applyC (allS x (es.take k)).now es[k] = 0 := by simpa using h3
          refine AW.swap 61 1 ?_
          refine aTt ((famP vs (allS x (es.take k)).ps ++ [.arr ⟨120,some u64⟩ 3 (rowsOf encLine (appP (allS x (es.take k)).now es[k]).lines)])) [4,5,6,7,8,9,23,24,25] [1,2,3,14,15,61,62,63,2002,2004,2007,2011,2012,2013,2044,2048] ?_
          refine AW.swap 62 2 ?_
          refine aTt ((famP vs (allS x (es.take k)).ps ++ [.arr ⟨120,some u64⟩ 3 (rowsOf encLine (appP (allS x (es.take k)).now es[k]).lines)])) [4,5,6,7,8,9,23,24,25] [1,2,3,14,15,61,62,63,2002,2004,2007,2011,2012,2013,2044,2048] ?_
          refine AW.swap 63 3 ?_
          refine aTt ((famP vs (allS x (es.take k)).ps ++ [.arr ⟨120,some u64⟩ 3 (rowsOf encLine (appP (allS x (es.take k)).now es[k]).lines)])) [4,5,6,7,8,9,23,24,25] [1,2,3,14,15,61,62,63,2002,2004,2007,2011,2012,2013,2044,2048] ?_
          refine aTt ((famP vs (allS x (es.take k)).ps ++ [.arr ⟨120,some u64⟩ 3 (rowsOf encLine (appP (allS x (es.take k)).now es[k]).lines)])) [4,5,6,7,8,9,23,24,25] [1,2,3,14,15,2002,2004,2007,2011,2012,2013,2044,2048] ?_
          refine aL<|lgI Z<|lmI Z<|nG ?_
          have hn : (allF (allS x (es.take k)) es[k]).now = appB (allS x (es.take k)).now es[k] := allF_ok hc0
          have hid := appP_id hc0
          have hl0 : (appP (allS x (es.take k)).now es[k]).lines ≠ [] := by have h := h4;rw [hid] at h;simpa using h
          have hp : (allF (allS x (es.take k)) es[k]).ps = (allS x (es.take k)).ps ++ [appP (allS x (es.take k)).now es[k]] := allF_ps hc0 hl0
          refine ⟨(k + 1,vs ++ [u64]),⟨hk,(by rw [allS_succ hk,hp];simp;omega)⟩,by show es.length - (k + 1) < es.length - k;omega,⟨(iq rfl),trivial⟩,⟨(Eq.trans (congrArg bBox hn.symm) (congrArg (fun s : AllS => bBox s.now) (allS_succ hk).symm)),(Eq.trans (congrArg (fun b : Book => AO.arr 40 7 (rowsOf encChan b.chans)) hn.symm) (congrArg (fun s : AllS => AO.arr 40 7 (rowsOf encChan s.now.chans)) (allS_succ hk).symm)),(Eq.trans (congrArg (fun b : Book => hAr b.htlcs) hn.symm) (congrArg (fun s : AllS => hAr s.now.htlcs) (allS_succ hk).symm)),(Eq.trans (congrArg (fun b : Book => iAr b.circles) hn.symm) (congrArg (fun s : AllS => iAr s.now.circles) (allS_succ hk).symm)),(Eq.trans (congrArg (AO.arr 34 2) (show _ = rowsV (vs ++ [u64]) (allF (allS x (es.take k)) es[k]).ps by rw [hp,rowsV_app hvl])) (congrArg (fun s : AllS => AO.arr 34 2 (rowsV (vs ++ [u64]) s.ps)) (allS_succ hk).symm)),(Eq.trans (Eq.trans (b := nAr ((allS x (es.take k)).codes ++ [applyC (allS x (es.take k)).now es[k]])) (congrArg (AO.arr 3 1) (rowsOf_app encKey _ [_]).symm) rfl) (congrArg (fun s : AllS => nAr s.codes) (allS_succ hk).symm)),trivial⟩,⟨rfl,rfl,rfl,rfl,rfl,rfl,rfl,rfl,trivial⟩,⟨rfl,rfl,trivial⟩,(by rw [allS_succ hk,hp,famP_app hvl];exact tlp)⟩
        · intro h4
          refine aK<|gT<|aL<|lmO Z<|lmI Z<|lst (zS 2048 (rowsOf encKey [applyC (allS x (es.take k)).now es[k]]) ty.el50 ty.ze3 rfl) Z<|lst (zP 15 ty.el50 ty.ze3 ty.by3 rfl (Src.own rfl rfl) (by simp [rowsOf,rowsV_len hvl];omega)) Z<|laO Z<|lN<|gB<|gT ?_
          have hc0 : applyC (allS x (es.take k)).now es[k] = 0 := by simpa using h3
          refine AW.swap 61 1 ?_
          refine aTt (famP vs (allS x (es.take k)).ps) [4,5,6,7,8,9,23,24,25] [1,2,3,14,15,61,62,63,64,2002,2004,2007,2011,2012,2013,2048] ?_
          refine AW.swap 62 2 ?_
          refine aTt (famP vs (allS x (es.take k)).ps) [4,5,6,7,8,9,23,24,25] [1,2,3,14,15,61,62,63,64,2002,2004,2007,2011,2012,2013,2048] ?_
          refine AW.swap 63 3 ?_
          refine aTt (famP vs (allS x (es.take k)).ps) [4,5,6,7,8,9,23,24,25] [1,2,3,14,15,61,62,63,64,2002,2004,2007,2011,2012,2013,2048] ?_
          refine aTt (famP vs (allS x (es.take k)).ps) [4,5,6,7,8,9,23,24,25] [1,2,3,14,15,2002,2004,2007,2011,2012,2013,2048] ?_
          refine aL<|lgI Z<|lmI Z<|nG ?_
          have hn : (allF (allS x (es.take k)) es[k]).now = appB (allS x (es.take k)).now es[k] := allF_ok hc0
          have hid := appP_id hc0
          have hl0 : (appP (allS x (es.take k)).now es[k]).lines = [] := by have h := h4;rw [hid] at h;simpa using h
          have hp : (allF (allS x (es.take k)) es[k]).ps = (allS x (es.take k)).ps := allF_ps2 hl0
          refine ⟨(k + 1,vs),⟨hk,(by rw [allS_succ hk,hp];exact hvl)⟩,by show es.length - (k + 1) < es.length - k;omega,⟨(iq rfl),trivial⟩,⟨(Eq.trans (congrArg bBox hn.symm) (congrArg (fun s : AllS => bBox s.now) (allS_succ hk).symm)),(Eq.trans (congrArg (fun b : Book => AO.arr 40 7 (rowsOf encChan b.chans)) hn.symm) (congrArg (fun s : AllS => AO.arr 40 7 (rowsOf encChan s.now.chans)) (allS_succ hk).symm)),(Eq.trans (congrArg (fun b : Book => hAr b.htlcs) hn.symm) (congrArg (fun s : AllS => hAr s.now.htlcs) (allS_succ hk).symm)),(Eq.trans (congrArg (fun b : Book => iAr b.circles) hn.symm) (congrArg (fun s : AllS => iAr s.now.circles) (allS_succ hk).symm)),(Eq.trans (congrArg (fun p => AO.arr 34 2 (rowsV vs p)) hp.symm) (congrArg (fun s : AllS => AO.arr 34 2 (rowsV vs s.ps)) (allS_succ hk).symm)),(Eq.trans (Eq.trans (b := nAr ((allS x (es.take k)).codes ++ [applyC (allS x (es.take k)).now es[k]])) (congrArg (AO.arr 3 1) (rowsOf_app encKey _ [_]).symm) rfl) (congrArg (fun s : AllS => nAr s.codes) (allS_succ hk).symm)),trivial⟩,⟨rfl,rfl,rfl,rfl,rfl,rfl,rfl,rfl,trivial⟩,⟨rfl,rfl,trivial⟩,(by rw [allS_succ hk,hp];exact tlp)⟩
      · intro h3
        refine aK<|gT<|aL<|lmO Z<|lmI Z<|lst (zS 2048 (rowsOf encKey [applyC (allS x (es.take k)).now es[k]]) ty.el50 ty.ze3 rfl) Z<|lst (zP 15 ty.el50 ty.ze3 ty.by3 rfl (Src.own rfl rfl) (by simp [rowsOf,rowsV_len hvl];omega)) Z<|laO Z<|lN<|gB<|gT ?_
        have hc0 : applyC (allS x (es.take k)).now es[k] ≠ 0 := by simpa using h3
        refine AW.unpin 1 rfl ?_
        refine AW.unpin 2 rfl ?_
        refine AW.unpin 3 rfl ?_
        refine aTt (famP vs (allS x (es.take k)).ps) [4,5,6,7,8,9,23,24,25] [1,2,3,14,15,2002,2004,2007,2011,2012,2013,2048] ?_
        refine aL<|lgI Z<|lmI Z<|nG ?_
        have hn : (allF (allS x (es.take k)) es[k]).now = (allS x (es.take k)).now := allF_no hc0
        have hp : (allF (allS x (es.take k)) es[k]).ps = (allS x (es.take k)).ps := allF_ps1 hc0
        refine ⟨(k + 1,vs),⟨hk,(by rw [allS_succ hk,hp];exact hvl)⟩,by show es.length - (k + 1) < es.length - k;omega,⟨(iq rfl),trivial⟩,⟨(Eq.trans (congrArg bBox hn.symm) (congrArg (fun s : AllS => bBox s.now) (allS_succ hk).symm)),(Eq.trans (congrArg (fun b : Book => AO.arr 40 7 (rowsOf encChan b.chans)) hn.symm) (congrArg (fun s : AllS => AO.arr 40 7 (rowsOf encChan s.now.chans)) (allS_succ hk).symm)),(Eq.trans (congrArg (fun b : Book => hAr b.htlcs) hn.symm) (congrArg (fun s : AllS => hAr s.now.htlcs) (allS_succ hk).symm)),(Eq.trans (congrArg (fun b : Book => iAr b.circles) hn.symm) (congrArg (fun s : AllS => iAr s.now.circles) (allS_succ hk).symm)),(Eq.trans (congrArg (fun p => AO.arr 34 2 (rowsV vs p)) hp.symm) (congrArg (fun s : AllS => AO.arr 34 2 (rowsV vs s.ps)) (allS_succ hk).symm)),(Eq.trans (Eq.trans (b := nAr ((allS x (es.take k)).codes ++ [applyC (allS x (es.take k)).now es[k]])) (congrArg (AO.arr 3 1) (rowsOf_app encKey _ [_]).symm) rfl) (congrArg (fun s : AllS => nAr s.codes) (allS_succ hk).symm)),trivial⟩,⟨rfl,rfl,rfl,rfl,rfl,rfl,rfl,rfl,trivial⟩,⟨rfl,rfl,trivial⟩,(by rw [allS_succ hk,hp];exact tlp)⟩
    · intro h2
      refine aE<|eT<|eT<|eB<|gA<|loX (.agg [vI _ _,vI _ _,vI _ _,.own _,.own _,.own _]) ty.kd27 Z<|lmO Z<|lmO Z<|lst (zB 2004 ty.co27 ty.inf27 Z) Z<|laO Z<|laO Z<|nG<|aR ?_
      have hke : k = es.length := by have h := h2;simp only [length_rowsOf,decide_eq_false_iff_not] at h;omega
      subst hke
      rw [allA_ok hbk]
      rw [List.take_length] at hvl hfr
      have hlp := allS_ps (x := x) (es := es) es.length (Nat.le_refl _)
      rw [List.take_length] at hlp ⊢
      refine end_nret (F1 := (famP vs (allS x es).ps)) (allV (allS x es)) (allOb (allS x es) vs) ?_ (by rw [famP_len hvl];omega) rfl rfl ⟨rfl,rfl,rfl,rfl,rfl,trivial⟩ tlp
      exact ⟨vs,hvl,rfl,rfl,rfl⟩

abbrev newBook : Book := ⟨0,1,0,[],[],[]⟩
theorem newBook_wf : BookWf newBook := ⟨by simp,by simp,by simp,by simp⟩
theorem allA_wf {x : Book} {es : List Event} (hw : BookWf x) (we : ∀ e ∈ es,wfEvent e) : BookWf (allA x es).now := by
  unfold allA
  split
  · have := allS_wf hw we es.length (Nat.le_refl _)
    rwa [List.take_length] at this
  · exact ⟨by simp [zeroBook],by simp [zeroBook],by simp [zeroBook],by simp [zeroBook]⟩
abbrev obB (l : List Chan) (h : List Htlc) (i : List Circle) : List (Nat × AO) := [(1,.arr 40 7 (rowsOf encChan l)),(2,.arr 68 7 (rowsOf encHtlc h)),(3,.arr 78 5 (rowsOf encCircle i))]
def DrB : AV → List (Nat × AO) → Prop := fun x ob2 => ∃ a b c l h i,BookWf ⟨a,b,c,l,h,i⟩ ∧ x = ownB a b c ∧ ob2 = obB l h i
section
variable {a b c : Int} {l : List Chan} {h : List Htlc} {i : List Circle}
theorem mem_set {α : Type} {l : List α} {k : Nat} {x : α} {p : α → Prop} (h : ∀ y ∈ l,p y) (hx : p x) : ∀ y ∈ l.set k x,p y := fun y hy => by
  rcases List.mem_or_eq_of_mem_set hy with q | rfl
  · exact h y q
  · exact hx
theorem BookWf.nums (w : BookWf ⟨a,b,c,l,h,i⟩) {a' b' c' : Int} : BookWf ⟨a',b',c',l,h,i⟩ := ⟨w.chans,w.htlcs,w.circles,w.len⟩
theorem BookWf.setC (w : BookWf ⟨a,b,c,l,h,i⟩) {k : Nat} {x : Chan} (hx : wfChan x) : BookWf ⟨a,b,c,l.set k x,h,i⟩ := ⟨mem_set w.chans hx,w.htlcs,w.circles,by show (l.set k x).length ≤ _;rw [List.length_set];exact w.len⟩
theorem BookWf.setH (w : BookWf ⟨a,b,c,l,h,i⟩) {k : Nat} {x : Htlc} (hx : wfHtlc x) : BookWf ⟨a,b,c,l,h.set k x,i⟩ := ⟨w.chans,mem_set w.htlcs hx,w.circles,w.len⟩
theorem BookWf.setI (w : BookWf ⟨a,b,c,l,h,i⟩) {k : Nat} {x : Circle} (hx : wfCircle x) : BookWf ⟨a,b,c,l,h,i.set k x⟩ := ⟨w.chans,w.htlcs,mem_set w.circles hx,w.len⟩
theorem BookWf.loc (w : BookWf ⟨a,b,c,l,h,i⟩) {k : Nat} (hk : k < l.length) {n : Int} (hn : i64 n) : BookWf ⟨a,b,c,l.set k { l[k] with loc := n },h,i⟩ := w.setC (by have := w.chans _ (List.getElem_mem hk);unfold wfChan at *;dsimp only at *;simp_all)
theorem BookWf.score (w : BookWf ⟨a,b,c,l,h,i⟩) {k : Nat} (hk : k < l.length) {n : Int} (hn : i64 n) : BookWf ⟨a,b,c,l.set k { l[k] with score := n },h,i⟩ := w.setC (by have := w.chans _ (List.getElem_mem hk);unfold wfChan at *;dsimp only at *;simp_all)
theorem BookWf.key (w : BookWf ⟨a,b,c,l,h,i⟩) {k : Nat} (hk : k < h.length) {n : Int} (hn : i64 n) : BookWf ⟨a,b,c,l,h.set k { h[k] with key := n },i⟩ := w.setH (by have := w.htlcs _ (List.getElem_mem hk);unfold wfHtlc at *;dsimp only at *;simp_all)
theorem BookWf.to (w : BookWf ⟨a,b,c,l,h,i⟩) {k : Nat} (hk : k < i.length) : BookWf ⟨a,b,c,l,h,i.set k { i[k] with to := i[k].frm }⟩ := w.setI (by have := w.circles _ (List.getElem_mem hk);unfold wfCircle at *;dsimp only at *;simp_all)
theorem BookWf.swap (w : BookWf ⟨a,b,c,l,h,i⟩) (hk : 1 < l.length) : BookWf ⟨a,b,c,(l.set 0 l[1]).set 1 (l[0]'(by omega)),h,i⟩ := (w.setC (w.chans _ (List.getElem_mem hk))).setC (w.chans _ (List.getElem_mem _))
end
theorem bookNew_0 : GC Tryz.prog 16 [] [] (.agg [int 0,int 1,int 0,.p (.v (.slice none 0 0)),.p (.v (.slice none 0 0)),.p (.v (.slice none 0 0))]) [] := by
 refine GC.intro (rs := [.cell 0 27 (some 6)]) Tryz.func16 rfl Tryz.ntmps16 (Nat.le_of_ble_eq_true rfl) ⟨rfl,rfl,ty.kd27,trivial⟩ ?_
 intro L O w0
 refine sL<|lst (zA 2000 ty.ze27 Z) Z<|nA<|lq (rd (x := .agg [vI _ _,vI _ _,vI _ _,vV _,vV _,vV _]) (rd_build Z ty.sa27 Z Z Z) Z)<|lst (zB 2000 ty.co27 ty.inf27 Z) Z<|nG<|aR ?_
 refine end_ret ?_ trivial
 rfl
theorem bookNew_e : GC Tryz.prog 16 [] [] (bookV newBook) [] := GX.imp bookNew_0 (fun x ob1 ⟨e1,e2⟩ => by
 subst e1 e2
 exact ⟨bookV newBook,Imp.agg (ImpL.cons (Imp.refl _) (ImpL.cons (Imp.refl _) (ImpL.cons (Imp.refl _) (ImpL.cons (Imp.nil _ _) (ImpL.cons (Imp.nil _ _) (ImpL.cons (Imp.nil _ _) ImpL.nil)))))),rfl,rfl⟩)
theorem l07Draw_e (g : Value) (code : List Int) (i : Nat) (h m : Int) (hc : CurOk code i) (hm : 0 ≤ m ∧ m ≤ 100) : GX Tryz.prog 74 [.ptr 0 0 0,int m] [(0,curO g code i h)] (DrX g code DrB) := by
 refine GX.intro (rs := [.cell 4 27 (some 6)]) Tryz.func74 rfl Tryz.ntmps74 (Nat.le_of_ble_eq_true rfl) ⟨rfl,rfl,ty.kd27,trivial⟩ ?_
 intro L O w0
 refine sL<|lst (zA 2004 ty.ze27 Z) Z<|nA<|lst (zC [] [] [] Tryz.func16 (bookNew_e) (trivial) Z Z) Z<|lmP Z<|lmI Z ?_
 refine lX [(0,0),(50,50)] [50] [0] Tryz.func70 (l07Events_e g code _ _ (m) hc hm) (⟨⟨0,rfl,rfl⟩,trivial⟩) (pins_curX) Z ?_
 intro xz1 oz1 hz1
 obtain ⟨i1,q1,_,hc1,⟨es1,hes1,rfl,rfl⟩,rfl⟩ := hz1
 refine AL.freeze 50 rfl ?_
 refine AL.stx (StX.callN (F := []) [(1,1),(2,2),(3,3),(14,14),(15,15)] [1,2,3,14,15] [] ([]).length Tryz.func87 (sapplyAll_e newBook es1 newBook_wf hes1.1 (by have := hes1.2;omega)) tlp List.drop_length List.take_length (Nat.le_refl _) (by simp) (fun _ _ _ _ => trivial) rfl rfl) rfl ?_
 rintro _ _ ⟨xz2,oz2,Fz2,hz2,hF2,hM2,rfl,rfl⟩
 obtain ⟨vs2,hv2,rfl,rfl,rfl⟩ := hz2
 have hrf2 : rowF ([] ++ famP vs2 (allA newBook es1).ps) := rowF.app (by first | assumption | exact rowF.nil) hF2
 refine lmX (.tup [.agg [vI _ _,vI _ _,vI _ _,.own _,.own _,.own _],.own _,.own _]) Z<|lxX (.agg [vI _ _,vI _ _,vI _ _,.own _,.own _,.own _]) Z<|lxO Z<|lxO Z<|lst (zA 2005 ty.ze27 Z) Z<|lst (zB 2005 ty.co27 ty.inf27 Z) Z<|laO Z<|laO Z<|nA<|loX (.agg [vI _ _,vI _ _,vI _ _,.own _,.own _,.own _]) ty.kd27 Z<|lst (zB 2004 ty.co27 ty.inf27 Z) Z ?_
 refine lTt (([] ++ famP vs2 (allA newBook es1).ps)) [4] [0,1,2,3,14,15,2004,2005] ?_
 refine nG<|aR ?_
 refine end_xret ((ownB _ _ _)) ((0,curO g code i1 q1) :: obB _ _ _) ?_ rfl ⟨rfl,rfl,rfl,rfl,trivial⟩
 exact ⟨_,_,_,hc1,⟨_,_,_,_,_,_,allA_wf newBook_wf hes1.1,rfl,rfl⟩,rfl⟩
theorem l07Any_e (g : Value) (code : List Int) (i : Nat) (h : Int) (hc : CurOk code i) : GX Tryz.prog 33 [.ptr 0 0 0] [(0,curO g code i h)] (DrX g code DrB) := by
 refine GX.intro (rs := [.cell 2 27 (some 6)]) Tryz.func33 rfl Tryz.ntmps33 (Nat.le_of_ble_eq_true rfl) ⟨rfl,rfl,ty.kd27,trivial⟩ ?_
 intro L O w0
 refine sL<|lst (zA 2002 ty.ze27 Z) Z<|nA<|lmP Z ?_
 refine lX [(0,0),(1,1),(2,2),(3,3)] [1,2,3] [0] Tryz.func74 (l07Draw_e g code _ _ _ hc (by omega)) (⟨⟨0,rfl,rfl⟩,trivial⟩) (pins_curX) Z ?_
 intro xz1 oz1 hz1
 obtain ⟨i1,q1,_,hc1,⟨_,_,_,_,_,_,hw1,rfl,rfl⟩,rfl⟩ := hz1
 refine lst (zA 2003 ty.ze27 Z) Z<|lst (zB 2003 ty.co27 ty.inf27 Z) Z<|nA<|lmP Z ?_
 refine lX [(0,0)] [] [0] Tryz.func35 (l01Below_e g code _ _ _ hc1) (⟨⟨0,rfl,rfl⟩,trivial⟩) (pins_cur) Z ?_
 intro xz2 oz2 hz2
 obtain ⟨i2,q2,hc2,⟨n2,⟨na2,nb2⟩,rfl⟩,rfl⟩ := hz2
 refine laI Z<|nG ?_
 refine aJ [0,2,3,4] [2002] (D := Nat × Int × Int × Int × Int × List Chan × List Htlc × List Circle) (fun d => []) (fun d => [(0,curO g code d.1 d.2.1),(2003,.box 27 none [int d.2.2.1,int d.2.2.2.1,int d.2.2.2.2.1,.own 1,.own 2,.own 3]),(1,.arr 40 7 (rowsOf encChan d.2.2.2.2.2.1)),(2,.arr 68 7 (rowsOf encHtlc d.2.2.2.2.2.2.1)),(3,.arr 78 5 (rowsOf encCircle d.2.2.2.2.2.2.2))]) (fun d => CurOk code d.1 ∧ BookWf ⟨d.2.2.1,d.2.2.2.1,d.2.2.2.2.1,d.2.2.2.2.2.1,d.2.2.2.2.2.2.1,d.2.2.2.2.2.2.2⟩) ?_ ?_
 ·refine sL<|lmI Z<|lbB Z<|nG ?_
  refine AW.cond rfl ?_ ?_
  ·intro h1
   refine aL<|lmP Z ?_
   refine lX [(0,0)] [] [0] Tryz.func90 (l01Raw_e g code _ _ hc2) (⟨⟨0,rfl,rfl⟩,trivial⟩) (pins_cur) Z ?_
   intro xz3 oz3 hz3
   obtain ⟨i3,q3,hc3,⟨n3,hn3,rfl⟩,rfl⟩ := hz3
   refine lf 1 ty.F27_1 Z<|lst (zB 2003 ty.co3 ty.inf3 Z) Z<|lT [0,2,3,4] [0,1,2,3,2002,2003] ?_
   refine nG ?_
   refine ⟨(_,_,_,_,_,_,_,_),⟨by assumption,by first | assumption | exact BookWf.nums (by assumption) | exact BookWf.loc (by assumption) _ (by assumption) | exact BookWf.key (by assumption) _ (by assumption) | exact BookWf.to (by assumption) _ | exact BookWf.score (by assumption) _ (by assumption) | exact BookWf.swap (by assumption) _⟩,trivial,⟨rfl,rfl,rfl,rfl,rfl,trivial⟩,rfl,rfl⟩
  ·intro h1
   refine aK<|gT ?_
   refine ⟨(_,_,_,_,_,_,_,_),⟨by assumption,by first | assumption | exact BookWf.nums (by assumption) | exact BookWf.loc (by assumption) _ (by assumption) | exact BookWf.key (by assumption) _ (by assumption) | exact BookWf.to (by assumption) _ | exact BookWf.score (by assumption) _ (by assumption) | exact BookWf.swap (by assumption) _⟩,trivial,⟨rfl,rfl,rfl,rfl,rfl,trivial⟩,rfl,rfl⟩
 ·intro ⟨iJ5,qJ5,aJ5,bJ5,cJ5,lJ5,xJ5,yJ5⟩ hJ5
  dsimp only
  obtain ⟨hcJ5,hwJ5⟩ := hJ5
  simp only at hcJ5 hwJ5
  refine aJ [0,2,3,4] [2002] (D := Nat × Int × Int × Int × Int × List Chan × List Htlc × List Circle) (fun d => []) (fun d => [(0,curO g code d.1 d.2.1),(2003,.box 27 none [int d.2.2.1,int d.2.2.2.1,int d.2.2.2.2.1,.own 1,.own 2,.own 3]),(1,.arr 40 7 (rowsOf encChan d.2.2.2.2.2.1)),(2,.arr 68 7 (rowsOf encHtlc d.2.2.2.2.2.2.1)),(3,.arr 78 5 (rowsOf encCircle d.2.2.2.2.2.2.2))]) (fun d => CurOk code d.1 ∧ BookWf ⟨d.2.2.1,d.2.2.2.1,d.2.2.2.2.1,d.2.2.2.2.2.1,d.2.2.2.2.2.2.1,d.2.2.2.2.2.2.2⟩) ?_ ?_
  ·refine sL<|lmI Z<|lbB Z<|nG ?_
   refine AW.cond rfl ?_ ?_
   ·intro h2
    refine aL<|lmP Z ?_
    refine lX [(0,0)] [] [0] Tryz.func90 (l01Raw_e g code _ _ hcJ5) (⟨⟨0,rfl,rfl⟩,trivial⟩) (pins_cur) Z ?_
    intro xz4 oz4 hz4
    obtain ⟨i4,q4,hc4,⟨n4,hn4,rfl⟩,rfl⟩ := hz4
    refine lf 2 ty.F27_2 Z<|lst (zB 2003 ty.co3 ty.inf3 Z) Z<|nG ?_
    refine ⟨(_,_,_,_,_,_,_,_),⟨by assumption,by first | assumption | exact BookWf.nums (by assumption) | exact BookWf.loc (by assumption) _ (by assumption) | exact BookWf.key (by assumption) _ (by assumption) | exact BookWf.to (by assumption) _ | exact BookWf.score (by assumption) _ (by assumption) | exact BookWf.swap (by assumption) _⟩,trivial,⟨rfl,rfl,rfl,rfl,rfl,trivial⟩,rfl,rfl⟩
   ·intro h2
    refine aK<|gT ?_
    refine ⟨(_,_,_,_,_,_,_,_),⟨by assumption,by first | assumption | exact BookWf.nums (by assumption) | exact BookWf.loc (by assumption) _ (by assumption) | exact BookWf.key (by assumption) _ (by assumption) | exact BookWf.to (by assumption) _ | exact BookWf.score (by assumption) _ (by assumption) | exact BookWf.swap (by assumption) _⟩,trivial,⟨rfl,rfl,rfl,rfl,rfl,trivial⟩,rfl,rfl⟩
  ·intro ⟨iJ7,qJ7,aJ7,bJ7,cJ7,lJ7,xJ7,yJ7⟩ hJ7
   dsimp only
   obtain ⟨hcJ7,hwJ7⟩ := hJ7
   simp only at hcJ7 hwJ7
   refine aJ [0,2,3,4] [2002] (D := Nat × Int × Int × Int × Int × List Chan × List Htlc × List Circle) (fun d => []) (fun d => [(0,curO g code d.1 d.2.1),(2003,.box 27 none [int d.2.2.1,int d.2.2.2.1,int d.2.2.2.2.1,.own 1,.own 2,.own 3]),(1,.arr 40 7 (rowsOf encChan d.2.2.2.2.2.1)),(2,.arr 68 7 (rowsOf encHtlc d.2.2.2.2.2.2.1)),(3,.arr 78 5 (rowsOf encCircle d.2.2.2.2.2.2.2))]) (fun d => CurOk code d.1 ∧ BookWf ⟨d.2.2.1,d.2.2.2.1,d.2.2.2.2.1,d.2.2.2.2.2.1,d.2.2.2.2.2.2.1,d.2.2.2.2.2.2.2⟩) ?_ ?_
   ·refine sL<|lmI Z<|lbB Z<|lmB Z ?_
    refine AL.bool (t := 22) rfl ?_ ?_
    ·intro h3
     refine lf 3 ty.F27_3 Z<|loO ty.kd23 Z<|lnI ty.sl23 Z<|lbB Z<|lkB Z<|nG ?_
     refine AW.cond rfl ?_ ?_
     ·intro h4
      have hl : 0 < lJ7.length := by have h := h4;simp [length_rowsOf] at h;omega
      refine aG 6 [0]<|tq 0 (rf 3 ty.F27_3 Z)<|tq 1 (roO ty.kd23 Z)<|yq 2 (rmP Z) ?_
      refine AG.stx (i := 3) rfl (by kernel_rfl) (St.callX [(0,0)] [] [0] rfl (by intro s hs;cases hs;decide) rfl Tryz.func90 rfl rfl (l01Raw_e g code _ _ hcJ7) ⟨rfl,rfl,rfl⟩ (⟨⟨0,rfl,rfl⟩,trivial⟩) (pins_cur) rfl) (exK (l := [0]) rfl rfl) rfl ?_
      rintro _ _ ⟨xz6,oz6,hz6,rfl,rfl⟩
      obtain ⟨i6,q6,hc6,⟨n6,hn6,rfl⟩,rfl⟩ := hz6
      refine yq 4 (rj 0 ty.el23 rfl (by rw [length_rowsOf];omega))<|yq 5 (rf 2 ty.F40_2 rfl)<|yl rfl (zQ 1 [.v (.int .i64 n6)] ty.co3 ty.inf3 rfl (row_map (by omega)))<|gT ?_
      refine ⟨(_,_,_,_,_,_,_,_),⟨by assumption,by first | assumption | exact BookWf.nums (by assumption) | exact BookWf.loc (by assumption) _ (by assumption) | exact BookWf.key (by assumption) _ (by assumption) | exact BookWf.to (by assumption) _ | exact BookWf.score (by assumption) _ (by assumption) | exact BookWf.swap (by assumption) _⟩,trivial,⟨rfl,rfl,(Eq.trans (b := AO.arr 40 7 ((rowsOf encChan (lJ7)).set 0 ((encChan { lJ7[0] with loc := n6 }).map PV.v))) rfl (congrArg (AO.arr 40 7) rows_set)),rfl,rfl,trivial⟩,rfl,rfl⟩
     ·intro h4
      refine aK<|gT ?_
      refine ⟨(_,_,_,_,_,_,_,_),⟨by assumption,by first | assumption | exact BookWf.nums (by assumption) | exact BookWf.loc (by assumption) _ (by assumption) | exact BookWf.key (by assumption) _ (by assumption) | exact BookWf.to (by assumption) _ | exact BookWf.score (by assumption) _ (by assumption) | exact BookWf.swap (by assumption) _⟩,trivial,⟨rfl,rfl,rfl,rfl,rfl,trivial⟩,rfl,rfl⟩
    ·intro h3
     refine lno Z<|lno Z<|lno Z<|lno Z<|lkZ Z<|nG<|aN Z<|aK<|gT ?_
     refine ⟨(_,_,_,_,_,_,_,_),⟨by assumption,by first | assumption | exact BookWf.nums (by assumption) | exact BookWf.loc (by assumption) _ (by assumption) | exact BookWf.key (by assumption) _ (by assumption) | exact BookWf.to (by assumption) _ | exact BookWf.score (by assumption) _ (by assumption) | exact BookWf.swap (by assumption) _⟩,trivial,⟨rfl,rfl,rfl,rfl,rfl,trivial⟩,rfl,rfl⟩
   ·intro ⟨iJ9,qJ9,aJ9,bJ9,cJ9,lJ9,xJ9,yJ9⟩ hJ9
    dsimp only
    obtain ⟨hcJ9,hwJ9⟩ := hJ9
    simp only at hcJ9 hwJ9
    refine aJ [0,2,3,4] [2002] (D := Nat × Int × Int × Int × Int × List Chan × List Htlc × List Circle) (fun d => []) (fun d => [(0,curO g code d.1 d.2.1),(2003,.box 27 none [int d.2.2.1,int d.2.2.2.1,int d.2.2.2.2.1,.own 1,.own 2,.own 3]),(1,.arr 40 7 (rowsOf encChan d.2.2.2.2.2.1)),(2,.arr 68 7 (rowsOf encHtlc d.2.2.2.2.2.2.1)),(3,.arr 78 5 (rowsOf encCircle d.2.2.2.2.2.2.2))]) (fun d => CurOk code d.1 ∧ BookWf ⟨d.2.2.1,d.2.2.2.1,d.2.2.2.2.1,d.2.2.2.2.2.1,d.2.2.2.2.2.2.1,d.2.2.2.2.2.2.2⟩) ?_ ?_
    ·refine sL<|lmI Z<|lbB Z<|lmB Z ?_
     refine AL.bool (t := 36) rfl ?_ ?_
     ·intro h5
      refine lf 4 ty.F27_4 Z<|loO ty.kd24 Z<|lnI ty.sl24 Z<|lbB Z<|lkB Z<|nG ?_
      refine AW.cond rfl ?_ ?_
      ·intro h6
       have hl : 0 < xJ9.length := by have h := h6;simp [length_rowsOf] at h;omega
       refine aG 6 [0]<|tq 0 (rf 4 ty.F27_4 Z)<|tq 1 (roO ty.kd24 Z)<|yq 2 (rmP Z) ?_
       refine AG.stx (i := 3) rfl (by kernel_rfl) (St.callX [(0,0)] [] [0] rfl (by intro s hs;cases hs;decide) rfl Tryz.func90 rfl rfl (l01Raw_e g code _ _ hcJ9) ⟨rfl,rfl,rfl⟩ (⟨⟨0,rfl,rfl⟩,trivial⟩) (pins_cur) rfl) (exK (l := [0]) rfl rfl) rfl ?_
       rintro _ _ ⟨xz8,oz8,hz8,rfl,rfl⟩
       obtain ⟨i8,q8,hc8,⟨n8,hn8,rfl⟩,rfl⟩ := hz8
       refine yq 4 (rj 0 ty.el24 rfl (by rw [length_rowsOf];omega))<|yq 5 (rf 0 ty.F68_0 rfl)<|yl rfl (zQ 2 [.v (.int .i64 n8)] ty.co3 ty.inf3 rfl (row_map (by omega)))<|gT ?_
       refine ⟨(_,_,_,_,_,_,_,_),⟨by assumption,by first | assumption | exact BookWf.nums (by assumption) | exact BookWf.loc (by assumption) _ (by assumption) | exact BookWf.key (by assumption) _ (by assumption) | exact BookWf.to (by assumption) _ | exact BookWf.score (by assumption) _ (by assumption) | exact BookWf.swap (by assumption) _⟩,trivial,⟨rfl,rfl,rfl,(Eq.trans (b := AO.arr 68 7 ((rowsOf encHtlc (xJ9)).set 0 ((encHtlc { xJ9[0] with key := n8 }).map PV.v))) rfl (congrArg (AO.arr 68 7) rows_set)),rfl,trivial⟩,rfl,rfl⟩
      ·intro h6
       refine aK<|gT ?_
       refine ⟨(_,_,_,_,_,_,_,_),⟨by assumption,by first | assumption | exact BookWf.nums (by assumption) | exact BookWf.loc (by assumption) _ (by assumption) | exact BookWf.key (by assumption) _ (by assumption) | exact BookWf.to (by assumption) _ | exact BookWf.score (by assumption) _ (by assumption) | exact BookWf.swap (by assumption) _⟩,trivial,⟨rfl,rfl,rfl,rfl,rfl,trivial⟩,rfl,rfl⟩
     ·intro h5
      refine lno Z<|lno Z<|lno Z<|lno Z<|lkZ Z<|nG<|aN Z<|aK<|gT ?_
      refine ⟨(_,_,_,_,_,_,_,_),⟨by assumption,by first | assumption | exact BookWf.nums (by assumption) | exact BookWf.loc (by assumption) _ (by assumption) | exact BookWf.key (by assumption) _ (by assumption) | exact BookWf.to (by assumption) _ | exact BookWf.score (by assumption) _ (by assumption) | exact BookWf.swap (by assumption) _⟩,trivial,⟨rfl,rfl,rfl,rfl,rfl,trivial⟩,rfl,rfl⟩
    ·intro ⟨iJ11,qJ11,aJ11,bJ11,cJ11,lJ11,xJ11,yJ11⟩ hJ11
     dsimp only
     obtain ⟨hcJ11,hwJ11⟩ := hJ11
     simp only at hcJ11 hwJ11
     refine aJ [0,2,3,4] [2002] (D := Nat × Int × Int × Int × Int × List Chan × List Htlc × List Circle) (fun d => []) (fun d => [(0,curO g code d.1 d.2.1),(2003,.box 27 none [int d.2.2.1,int d.2.2.2.1,int d.2.2.2.2.1,.own 1,.own 2,.own 3]),(1,.arr 40 7 (rowsOf encChan d.2.2.2.2.2.1)),(2,.arr 68 7 (rowsOf encHtlc d.2.2.2.2.2.2.1)),(3,.arr 78 5 (rowsOf encCircle d.2.2.2.2.2.2.2))]) (fun d => CurOk code d.1 ∧ BookWf ⟨d.2.2.1,d.2.2.2.1,d.2.2.2.2.1,d.2.2.2.2.2.1,d.2.2.2.2.2.2.1,d.2.2.2.2.2.2.2⟩) ?_ ?_
     ·refine sL<|lmI Z<|lbB Z<|nG ?_
      refine AW.cond rfl ?_ ?_
      ·intro h7
       refine aL<|lmP Z ?_
       refine lX [(0,0)] [] [0] Tryz.func35 (l01Below_e g code _ _ _ hcJ11) (⟨⟨0,rfl,rfl⟩,trivial⟩) (pins_cur) Z ?_
       intro xz9 oz9 hz9
       obtain ⟨i9,q9,hc9,⟨n9,⟨na9,nb9⟩,rfl⟩,rfl⟩ := hz9
       refine lgI Z<|lf 0 ty.F27_0 Z<|lst (zB 2003 ty.co3 ty.inf3 Z) Z<|nG ?_
       refine ⟨(_,_,_,_,_,_,_,_),⟨by assumption,by first | assumption | exact BookWf.nums (by assumption) | exact BookWf.loc (by assumption) _ (by assumption) | exact BookWf.key (by assumption) _ (by assumption) | exact BookWf.to (by assumption) _ | exact BookWf.score (by assumption) _ (by assumption) | exact BookWf.swap (by assumption) _⟩,trivial,⟨rfl,rfl,rfl,rfl,rfl,trivial⟩,rfl,rfl⟩
      ·intro h7
       refine aK<|gT ?_
       refine ⟨(_,_,_,_,_,_,_,_),⟨by assumption,by first | assumption | exact BookWf.nums (by assumption) | exact BookWf.loc (by assumption) _ (by assumption) | exact BookWf.key (by assumption) _ (by assumption) | exact BookWf.to (by assumption) _ | exact BookWf.score (by assumption) _ (by assumption) | exact BookWf.swap (by assumption) _⟩,trivial,⟨rfl,rfl,rfl,rfl,rfl,trivial⟩,rfl,rfl⟩
     ·intro ⟨iJ13,qJ13,aJ13,bJ13,cJ13,lJ13,xJ13,yJ13⟩ hJ13
      dsimp only
      obtain ⟨hcJ13,hwJ13⟩ := hJ13
      simp only at hcJ13 hwJ13
      refine aJ [0,2,3,4] [2002] (D := Nat × Int × Int × Int × Int × List Chan × List Htlc × List Circle) (fun d => []) (fun d => [(0,curO g code d.1 d.2.1),(2003,.box 27 none [int d.2.2.1,int d.2.2.2.1,int d.2.2.2.2.1,.own 1,.own 2,.own 3]),(1,.arr 40 7 (rowsOf encChan d.2.2.2.2.2.1)),(2,.arr 68 7 (rowsOf encHtlc d.2.2.2.2.2.2.1)),(3,.arr 78 5 (rowsOf encCircle d.2.2.2.2.2.2.2))]) (fun d => CurOk code d.1 ∧ BookWf ⟨d.2.2.1,d.2.2.2.1,d.2.2.2.2.1,d.2.2.2.2.2.1,d.2.2.2.2.2.2.1,d.2.2.2.2.2.2.2⟩) ?_ ?_
      ·refine sL<|lmI Z<|lbB Z<|lmB Z ?_
       refine AL.bool (t := 56) rfl ?_ ?_
       ·intro h8
        refine lf 3 ty.F27_3 Z<|loO ty.kd23 Z<|lnI ty.sl23 Z<|lbB Z<|lkB Z<|nG ?_
        refine AW.cond rfl ?_ ?_
        ·intro h9
         refine aS ?_
         have hl : 1 < lJ13.length := by have h := h9;simp [length_rowsOf] at h;omega
         refine aL<|lf 3 ty.F27_3 Z<|loO ty.kd23 Z<|lq (rj 0 ty.el23 rfl (by rw [length_rowsOf];omega))<|lq (rd (x := .agg [vI _ _,vI _ _,vI _ _,vI _ _,vI _ _,vI _ _,vI _ _]) (rd_load_arr rfl ty.kd40 rfl rfl rfl (row_map (by omega)) rfl) rfl)<|lst (zA 2005 ty.ze40 rfl) Z<|lst (zB 2005 ty.co40 ty.inf40 rfl) Z<|lT [0,2,3,4,5] [0,1,2,3,2002,2003,2005] ?_
         refine nG<|aS<|aF [7]<|pq 0 (qf 3 ty.F27_3 rfl)<|sq 1 (roO ty.kd23 rfl)<|vq 2 (rf 3 ty.F27_3 rfl)<|vq 3 (roO ty.kd23 rfl)<|vq 4 (rj 1 ty.el23 rfl (by rw [length_rowsOf];omega))<|vq 5 (rd (x := .agg [vI _ _,vI _ _,vI _ _,vI _ _,vI _ _,vI _ _,vI _ _]) (rd_load_arr rfl ty.kd40 rfl rfl rfl (row_map (by omega)) rfl) rfl)<|vq 6 (rj 0 ty.el23 rfl (by rw [length_rowsOf];omega))<|vst 7 rfl (zQ 1 (((encChan lJ13[1]).map PV.v)) ty.co40 ty.inf40 rfl (row_map (by omega))) (.inl rfl)<|fD<|gT ?_
         refine AW.obj 1 (.arr 40 7 (rowsOf encChan ((lJ13).set 0 lJ13[1]))) (Eq.trans (b := AO.arr 40 7 ((rowsOf encChan (lJ13)).set 0 ((encChan lJ13[1]).map PV.v))) rfl (congrArg (AO.arr 40 7) rows_set)) ?_
         refine aL<|lf 3 ty.F27_3 Z<|loO ty.kd23 Z<|loX (.agg [vI _ _,vI _ _,vI _ _,vI _ _,vI _ _,vI _ _,vI _ _]) ty.kd40 Z<|lq (rj 1 ty.el23 rfl (by rw [length_rowsOf,List.length_set];omega))<|lst (zQ 1 (((encChan lJ13[0]).map PV.v)) ty.co40 ty.inf40 rfl (row_map (by rw [List.length_set];omega))) Z<|nG ?_
         refine ⟨(_,_,_,_,_,_,_,_),⟨by assumption,by first | assumption | exact BookWf.nums (by assumption) | exact BookWf.loc (by assumption) _ (by assumption) | exact BookWf.key (by assumption) _ (by assumption) | exact BookWf.to (by assumption) _ | exact BookWf.score (by assumption) _ (by assumption) | exact BookWf.swap (by assumption) _⟩,trivial,⟨rfl,rfl,(Eq.trans (b := AO.arr 40 7 ((rowsOf encChan (lJ13.set 0 lJ13[1])).set 1 ((encChan lJ13[0]).map PV.v))) rfl (congrArg (AO.arr 40 7) rows_set)),rfl,rfl,trivial⟩,rfl,rfl⟩
        ·intro h9
         refine aK<|gT ?_
         refine ⟨(_,_,_,_,_,_,_,_),⟨by assumption,by first | assumption | exact BookWf.nums (by assumption) | exact BookWf.loc (by assumption) _ (by assumption) | exact BookWf.key (by assumption) _ (by assumption) | exact BookWf.to (by assumption) _ | exact BookWf.score (by assumption) _ (by assumption) | exact BookWf.swap (by assumption) _⟩,trivial,⟨rfl,rfl,rfl,rfl,rfl,trivial⟩,rfl,rfl⟩
       ·intro h8
        refine lno Z<|lno Z<|lno Z<|lno Z<|lkZ Z<|nG<|aN Z<|aK<|gT ?_
        refine ⟨(_,_,_,_,_,_,_,_),⟨by assumption,by first | assumption | exact BookWf.nums (by assumption) | exact BookWf.loc (by assumption) _ (by assumption) | exact BookWf.key (by assumption) _ (by assumption) | exact BookWf.to (by assumption) _ | exact BookWf.score (by assumption) _ (by assumption) | exact BookWf.swap (by assumption) _⟩,trivial,⟨rfl,rfl,rfl,rfl,rfl,trivial⟩,rfl,rfl⟩
      ·intro ⟨iJ17,qJ17,aJ17,bJ17,cJ17,lJ17,xJ17,yJ17⟩ hJ17
       dsimp only
       obtain ⟨hcJ17,hwJ17⟩ := hJ17
       simp only at hcJ17 hwJ17
       refine aJ [0,2,3,4] [2002] (D := Nat × Int × Int × Int × Int × List Chan × List Htlc × List Circle) (fun d => []) (fun d => [(0,curO g code d.1 d.2.1),(2003,.box 27 none [int d.2.2.1,int d.2.2.2.1,int d.2.2.2.2.1,.own 1,.own 2,.own 3]),(1,.arr 40 7 (rowsOf encChan d.2.2.2.2.2.1)),(2,.arr 68 7 (rowsOf encHtlc d.2.2.2.2.2.2.1)),(3,.arr 78 5 (rowsOf encCircle d.2.2.2.2.2.2.2))]) (fun d => CurOk code d.1 ∧ BookWf ⟨d.2.2.1,d.2.2.2.1,d.2.2.2.2.1,d.2.2.2.2.2.1,d.2.2.2.2.2.2.1,d.2.2.2.2.2.2.2⟩) ?_ ?_
       ·refine sL<|lmI Z<|lbB Z<|lmB Z ?_
        refine AL.bool (t := 79) rfl ?_ ?_
        ·intro h10
         refine lf 5 ty.F27_5 Z<|loO ty.kd25 Z<|lnI ty.sl25 Z<|lbB Z<|lkB Z<|nG ?_
         refine AW.cond rfl ?_ ?_
         ·intro h11
          have hl : 0 < yJ17.length := by have h := h11;simp [length_rowsOf] at h;omega
          refine aF [9]<|pq 0 (qf 5 ty.F27_5 rfl)<|sq 1 (roO ty.kd25 rfl)<|vq 2 (rf 5 ty.F27_5 rfl)<|vq 3 (roO ty.kd25 rfl)<|vq 4 (rj 0 ty.el25 rfl (by rw [length_rowsOf];omega))<|vq 5 (rf 1 ty.F78_1 rfl)<|vq 6 (rd (x := vI _ _) (rd_load_arr rfl ty.kd3 rfl rfl rfl (row_map (by omega)) rfl) rfl)<|vq 7 (rj 0 ty.el25 rfl (by rw [length_rowsOf];omega))<|vq 8 (rf 2 ty.F78_2 rfl)<|vst 9 rfl (zQ 3 [.v (.int .i64 yJ17[0].frm)] ty.co3 ty.inf3 rfl (row_map (by omega))) (.inl rfl)<|fT [0,2,3,4] [0,1,2,3,2002,2003] ?_
          refine fD<|gT ?_
          refine ⟨(_,_,_,_,_,_,_,_),⟨by assumption,by first | assumption | exact BookWf.nums (by assumption) | exact BookWf.loc (by assumption) _ (by assumption) | exact BookWf.key (by assumption) _ (by assumption) | exact BookWf.to (by assumption) _ | exact BookWf.score (by assumption) _ (by assumption) | exact BookWf.swap (by assumption) _⟩,trivial,⟨rfl,rfl,rfl,rfl,(Eq.trans (b := AO.arr 78 5 ((rowsOf encCircle (yJ17)).set 0 ((encCircle { yJ17[0] with to := yJ17[0].frm }).map PV.v))) rfl (congrArg (AO.arr 78 5) rows_set)),trivial⟩,rfl,rfl⟩
         ·intro h11
          refine aK<|gT ?_
          refine ⟨(_,_,_,_,_,_,_,_),⟨by assumption,by first | assumption | exact BookWf.nums (by assumption) | exact BookWf.loc (by assumption) _ (by assumption) | exact BookWf.key (by assumption) _ (by assumption) | exact BookWf.to (by assumption) _ | exact BookWf.score (by assumption) _ (by assumption) | exact BookWf.swap (by assumption) _⟩,trivial,⟨rfl,rfl,rfl,rfl,rfl,trivial⟩,rfl,rfl⟩
        ·intro h10
         refine lno Z<|lno Z<|lno Z<|lno Z<|lkZ Z<|nG<|aN Z<|aK<|gT ?_
         refine ⟨(_,_,_,_,_,_,_,_),⟨by assumption,by first | assumption | exact BookWf.nums (by assumption) | exact BookWf.loc (by assumption) _ (by assumption) | exact BookWf.key (by assumption) _ (by assumption) | exact BookWf.to (by assumption) _ | exact BookWf.score (by assumption) _ (by assumption) | exact BookWf.swap (by assumption) _⟩,trivial,⟨rfl,rfl,rfl,rfl,rfl,trivial⟩,rfl,rfl⟩
       ·intro ⟨iJ19,qJ19,aJ19,bJ19,cJ19,lJ19,xJ19,yJ19⟩ hJ19
        dsimp only
        obtain ⟨hcJ19,hwJ19⟩ := hJ19
        simp only at hcJ19 hwJ19
        refine aJ [2,3] [2002] (D := Nat × Int × Int × Int × Int × List Chan × List Htlc × List Circle) (fun d => []) (fun d => [(0,curO g code d.1 d.2.1),(2003,.box 27 none [int d.2.2.1,int d.2.2.2.1,int d.2.2.2.2.1,.own 1,.own 2,.own 3]),(1,.arr 40 7 (rowsOf encChan d.2.2.2.2.2.1)),(2,.arr 68 7 (rowsOf encHtlc d.2.2.2.2.2.2.1)),(3,.arr 78 5 (rowsOf encCircle d.2.2.2.2.2.2.2))]) (fun d => CurOk code d.1 ∧ BookWf ⟨d.2.2.1,d.2.2.2.1,d.2.2.2.2.1,d.2.2.2.2.2.1,d.2.2.2.2.2.2.1,d.2.2.2.2.2.2.2⟩) ?_ ?_
        ·refine sL<|lmI Z<|lbB Z<|lmB Z ?_
         refine AL.bool (t := 96) rfl ?_ ?_
         ·intro h12
          refine lf 3 ty.F27_3 Z<|loO ty.kd23 Z<|lnI ty.sl23 Z<|lbB Z<|lkB Z<|nG ?_
          refine AW.cond rfl ?_ ?_
          ·intro h13
           have hl : 0 < lJ19.length := by have h := h13;simp [length_rowsOf] at h;omega
           refine aG 6 [0]<|tq 0 (rf 3 ty.F27_3 Z)<|tq 1 (roO ty.kd23 Z)<|yq 2 (rmP Z) ?_
           refine AG.stx (i := 3) rfl (by kernel_rfl) (St.callX [(0,0)] [] [0] rfl (by intro s hs;cases hs;decide) rfl Tryz.func91 rfl rfl (l06Score_e g code _ _ hcJ19) ⟨rfl,rfl,rfl⟩ (⟨⟨0,rfl,rfl⟩,trivial⟩) (pins_cur) rfl) (exK (l := [0]) rfl rfl) rfl ?_
           rintro _ _ ⟨xz11,oz11,hz11,rfl,rfl⟩
           obtain ⟨i11,q11,hc11,⟨n11,hn11,rfl⟩,rfl⟩ := hz11
           refine yq 4 (rj 0 ty.el23 rfl (by rw [length_rowsOf];omega))<|yq 5 (rf 6 ty.F40_6 rfl)<|yl rfl (zQ 1 [.v (.int .i64 n11)] ty.co3 ty.inf3 rfl (row_map (by omega)))<|gT ?_
           refine ⟨(_,_,_,_,_,_,_,_),⟨by assumption,by first | assumption | exact BookWf.nums (by assumption) | exact BookWf.loc (by assumption) _ (by assumption) | exact BookWf.key (by assumption) _ (by assumption) | exact BookWf.to (by assumption) _ | exact BookWf.score (by assumption) _ (by assumption) | exact BookWf.swap (by assumption) _⟩,trivial,⟨rfl,rfl,(Eq.trans (b := AO.arr 40 7 ((rowsOf encChan (lJ19)).set 0 ((encChan { lJ19[0] with score := n11 }).map PV.v))) rfl (congrArg (AO.arr 40 7) rows_set)),rfl,rfl,trivial⟩,rfl,rfl⟩
          ·intro h13
           refine aK<|gT ?_
           refine ⟨(_,_,_,_,_,_,_,_),⟨by assumption,by first | assumption | exact BookWf.nums (by assumption) | exact BookWf.loc (by assumption) _ (by assumption) | exact BookWf.key (by assumption) _ (by assumption) | exact BookWf.to (by assumption) _ | exact BookWf.score (by assumption) _ (by assumption) | exact BookWf.swap (by assumption) _⟩,trivial,⟨rfl,rfl,rfl,rfl,rfl,trivial⟩,rfl,rfl⟩
         ·intro h12
          refine lno Z<|lno Z<|lno Z<|lno Z<|lkZ Z<|nG<|aN Z<|aK<|gT ?_
          refine ⟨(_,_,_,_,_,_,_,_),⟨by assumption,by first | assumption | exact BookWf.nums (by assumption) | exact BookWf.loc (by assumption) _ (by assumption) | exact BookWf.key (by assumption) _ (by assumption) | exact BookWf.to (by assumption) _ | exact BookWf.score (by assumption) _ (by assumption) | exact BookWf.swap (by assumption) _⟩,trivial,⟨rfl,rfl,rfl,rfl,rfl,trivial⟩,rfl,rfl⟩
        ·intro ⟨iJ21,qJ21,aJ21,bJ21,cJ21,lJ21,xJ21,yJ21⟩ hJ21
         dsimp only
         obtain ⟨hcJ21,hwJ21⟩ := hJ21
         simp only at hcJ21 hwJ21
         refine sL<|loX (.agg [vI _ _,vI _ _,vI _ _,.own _,.own _,.own _]) ty.kd27 Z<|lst (zB 2002 ty.co27 ty.inf27 Z) Z<|nG<|aR ?_
         refine end_xret ((ownB _ _ _)) ((0,curO g code _ _) :: obB _ _ _) ?_ rfl ⟨rfl,rfl,rfl,rfl,trivial⟩
         exact ⟨_,_,_,hcJ21,⟨_,_,_,_,_,_,hwJ21,rfl,rfl⟩,rfl⟩

def DrA : AV → List (Nat × AO) → Prop := fun x ob => ∃ a b c l h i e,BookWf ⟨a,b,c,l,h,i⟩ ∧ wfEvent e ∧ x = .tup [ownB a b c,evV e] ∧ ob = obB l h i
theorem drawApply_e (code : List Int) (hm : code.length ≤ 1048576) : GX Tryz.prog 8 [.p (.lst 5 1 (rowsOf encU8 code))] [] (DrA) := by
 refine GX.intro (rs := [.cell 2 27 (some 6),.cell 3 29 (some 7)]) Tryz.func8 rfl Tryz.ntmps8 (Nat.le_of_ble_eq_true rfl) ⟨rfl,rfl,ty.kd27,rfl,rfl,ty.kd29,trivial⟩ ?_
 intro L O w0
 refine sL<|lst (zA 2002 ty.ze27 Z) Z<|lst (zA 2003 ty.ze29 Z) Z<|nA<|lmL Z ?_
 refine lX [(31,0)] [0] [] Tryz.func32 (l01New_e code hm) (trivial) (fun _ _ _ => trivial) Z ?_
 intro xz1 oz1 hz1
 obtain ⟨q1,rfl,rfl⟩ := hz1
 refine laP Z<|nA<|lmP Z ?_
 refine AL.pinB 0 rfl ?_
 intro g
 have hc : CurOk code 0 := ⟨Nat.zero_le _,hm⟩
 refine lX [(0,0),(1,1),(2,2),(3,3)] [1,2,3] [0] Tryz.func33 (l07Any_e g code _ _ hc) (⟨⟨0,rfl,rfl⟩,trivial⟩) (pins_curX) Z ?_
 intro xz2 oz2 hz2
 obtain ⟨i2,q2,_,hc2,⟨aB,bB,cB,lB,xB,yB,hwB,rfl,rfl⟩,rfl⟩ := hz2
 refine lst (zA 2005 ty.ze27 Z) Z<|lst (zB 2005 ty.co27 ty.inf27 Z) Z<|nA<|lmP Z ?_
 refine lX [(0,0)] [] [0] Tryz.func34 (l04Draw_e g code _ _ hc2) (⟨⟨0,rfl,rfl⟩,trivial⟩) (pins_cur) Z ?_
 intro xz3 oz3 hz3
 obtain ⟨i3,q3,hc3,⟨⟨va3,vb3,vc3,vd3,ve3,vf3,vg3⟩,hw3,rfl⟩,rfl⟩ := hz3
 refine lst (zA 2006 ty.ze29 Z) Z<|lst (zB 2006 ty.co29 ty.inf29 Z) Z<|nA<|lmP Z ?_
 refine lX [(0,0)] [] [0] Tryz.func35 (l01Below_e g code _ _ _ hc3) (⟨⟨0,rfl,rfl⟩,trivial⟩) (pins_cur) Z ?_
 intro xz4 oz4 hz4
 obtain ⟨i4,q4,hc4,⟨n4,⟨na4,nb4⟩,rfl⟩,rfl⟩ := hz4
 refine lT [2,3,4,5,6,15] [0,1,2,3,2002,2003,2005,2006] ?_
 refine laI Z<|nG ?_
 refine aJ [2,3,4,5,6,7] [1,2,3,2002,2003,2005] (D := Nat × Int × Ev7) (fun d => []) (fun d => [(0,curO g code d.1 d.2.1),(2006,evC none d.2.2.1 d.2.2.2.1 d.2.2.2.2.1 d.2.2.2.2.2.1 d.2.2.2.2.2.2.1 d.2.2.2.2.2.2.2.1 d.2.2.2.2.2.2.2.2)]) (fun d => CurOk code d.1 ∧ wfEvent (ev7 d.2.2)) ?_ ?_
 ·refine sL<|lmI Z<|lbB Z<|nG ?_
  refine AW.cond rfl ?_ ?_
  ·intro h1
   refine aL<|lmP Z ?_
   refine lX [(0,0)] [] [0] Tryz.func36 (l04Any_e g code _ _ hc4) (⟨⟨0,rfl,rfl⟩,trivial⟩) (pins_cur) Z ?_
   intro xz5 oz5 hz5
   obtain ⟨i5,q5,hc5,⟨⟨va5,vb5,vc5,vd5,ve5,vf5,vg5⟩,hw5,rfl⟩,rfl⟩ := hz5
   refine lst (zB 2006 ty.co29 ty.inf29 Z) Z<|nG ?_
   refine ⟨(_,_,_,_,_,_,_,_,_),(by refine ⟨by assumption,?_⟩;simp only [wfEvent,i64,ev7] at *;omega),trivial,⟨rfl,rfl,trivial⟩,rfl,rfl⟩
  ·intro h1
   refine aK<|gT ?_
   refine ⟨(_,_,_,_,_,_,_,_,_),(by refine ⟨by assumption,?_⟩;simp only [wfEvent,i64,ev7] at *;omega),trivial,⟨rfl,rfl,trivial⟩,rfl,rfl⟩
 ·intro ⟨iJ7,qJ7,ea7,eb7,ec7,ed7,ee7,ef7,eg7⟩ hJ7
  dsimp only
  obtain ⟨hcJ7,hwJ7⟩ := hJ7
  replace hcJ7 : CurOk code iJ7 := hcJ7
  unfold wfEvent i64 at hwJ7
  simp only [ev7] at hwJ7
  refine aJ [2,3,4,5,6,7] [1,2,3,2002,2003,2005] (D := Nat × Int × Ev7) (fun d => []) (fun d => [(0,curO g code d.1 d.2.1),(2006,evC none d.2.2.1 d.2.2.2.1 d.2.2.2.2.1 d.2.2.2.2.2.1 d.2.2.2.2.2.2.1 d.2.2.2.2.2.2.2.1 d.2.2.2.2.2.2.2.2)]) (fun d => CurOk code d.1 ∧ wfEvent (ev7 d.2.2)) ?_ ?_
  ·refine sL<|lmI Z<|lbB Z<|lmB Z ?_
   refine AL.bool (t := 22) rfl ?_ ?_
   ·intro h2
    refine lf 4 ty.F27_4 Z<|loO ty.kd24 Z<|lnI ty.sl24 Z<|lbB Z<|lkB Z<|nG ?_
    refine AW.cond rfl ?_ ?_
    ·intro h3
     refine aG 14 [0]<|tq 0 (rmP Z)<|tq 3 (rf 4 ty.F27_4 Z)<|tq 4 (roO ty.kd24 Z)<|tq 5 (rmP Z)<|tq 6 (rf 4 ty.F27_4 Z)<|tq 7 (roO ty.kd24 Z)<|tq 8 (rnI ty.sl24 Z) ?_
     refine AG.stx (i := 1) rfl (by kernel_rfl) (St.callX [(0,0)] [] [0] rfl (by intro s hs;cases hs;decide) rfl Tryz.func35 rfl rfl (l01Below_e g code _ _ _ hcJ7) ⟨rfl,rfl,rfl⟩ (⟨⟨0,rfl,rfl⟩,trivial⟩) (pins_cur) rfl) (exK (l := [0]) rfl rfl) rfl ?_
     rintro _ _ ⟨xz8,oz8,hz8,rfl,rfl⟩
     obtain ⟨i8,q8,hc8,⟨n8,⟨na8,nb8⟩,rfl⟩,rfl⟩ := hz8
     refine gX [2,3,4,5,6,7,29,32,33,36] [0,1,2,3,2002,2003,2005,2006] ?_
     refine tq 2 (rgI rfl (by unfold i64;omega)) ?_
     refine AG.stx (i := 9) rfl (by kernel_rfl) (St.callX [(0,0)] [] [0] rfl (by intro s hs;cases hs;decide) rfl Tryz.func35 rfl rfl (l01Below_e g code _ _ _ hc8) ⟨rfl,rfl,rfl⟩ (⟨⟨0,rfl,rfl⟩,trivial⟩) (pins_cur) rfl) (exK (l := [0]) rfl rfl) rfl ?_
     rintro _ _ ⟨xz9,oz9,hz9,rfl,rfl⟩
     obtain ⟨i9,q9,hc9,⟨n9,⟨na9,nb9⟩,rfl⟩,rfl⟩ := hz9
     obtain ⟨m,hm7⟩ := Int.eq_ofNat_of_zero_le na9
     have hk7 : m < xB.length := by have h := h3;simp [length_rowsOf] at h;have := nb9;simp only [length_rowsOf] at this;omega
     have hkk : i64 xB[m].key := (hwB.htlcs _ (List.getElem_mem hk7)).1
     refine yq 10 (rd (x := .ptr 2 _ 0) (rd_iaddr_own (i := m) rfl ty.el24 rfl rfl rfl ?hn1 (by rw [length_rowsOf];exact hk7)) rfl) ?_
     case hn1 => exact hm7
     refine yq 11 (rf 0 ty.F68_0 Z)<|yq 12 (rd (x := vI _ _) (rd_load_arr Z ty.kd3 Z Z Z (row_map hk7) Z) Z)<|yq 13 (rd (x := .agg [vI _ _,vI _ _,vI _ _,vI _ _,vI _ _,vI _ _,vB false]) (rd_build Z ty.sa29 Z Z Z) Z)<|yl Z (zB 2006 ty.co29 ty.inf29 Z)<|gT ?_
     refine ⟨(_,_,_,xB[m].key,_,_,_,_,_),(by refine ⟨by assumption,?_⟩;simp only [wfEvent,i64,ev7] at *;omega),trivial,⟨rfl,rfl,trivial⟩,rfl,rfl⟩
    ·intro h3
     refine aK<|gT ?_
     refine ⟨(_,_,_,_,_,_,_,_,_),(by refine ⟨by assumption,?_⟩;simp only [wfEvent,i64,ev7] at *;omega),trivial,⟨rfl,rfl,trivial⟩,rfl,rfl⟩
   ·intro h2
    refine lno Z<|lno Z<|lno Z<|lno Z<|lkZ Z<|nG<|aN Z<|aK<|gT ?_
    refine ⟨(_,_,_,_,_,_,_,_,_),(by refine ⟨by assumption,?_⟩;simp only [wfEvent,i64,ev7] at *;omega),trivial,⟨rfl,rfl,trivial⟩,rfl,rfl⟩
  ·intro ⟨iJ9,qJ9,ea9,eb9,ec9,ed9,ee9,ef9,eg9⟩ hJ9
   dsimp only
   obtain ⟨hcJ9,hwJ9⟩ := hJ9
   replace hcJ9 : CurOk code iJ9 := hcJ9
   unfold wfEvent i64 at hwJ9
   simp only [ev7] at hwJ9
   refine aJ [2,3,5,6] [1,2,3,2002,2003,2005] (D := Nat × Int × Ev7) (fun d => []) (fun d => [(0,curO g code d.1 d.2.1),(2006,evC none d.2.2.1 d.2.2.2.1 d.2.2.2.2.1 d.2.2.2.2.2.1 d.2.2.2.2.2.2.1 d.2.2.2.2.2.2.2.1 d.2.2.2.2.2.2.2.2)]) (fun d => CurOk code d.1 ∧ wfEvent (ev7 d.2.2)) ?_ ?_
   ·refine sL<|lmI Z<|lbB Z<|lmB Z ?_
    refine AL.bool (t := 44) rfl ?_ ?_
    ·intro h4
     refine lf 5 ty.F27_5 Z<|loO ty.kd25 Z<|lnI ty.sl25 Z<|lbB Z<|lkB Z<|nG ?_
     refine AW.cond rfl ?_ ?_
     ·intro h5
      refine aG 14 [0]<|tq 0 (rmP Z)<|tq 3 (rf 5 ty.F27_5 Z)<|tq 4 (roO ty.kd25 Z)<|tq 5 (rmP Z)<|tq 6 (rf 5 ty.F27_5 Z)<|tq 7 (roO ty.kd25 Z)<|tq 8 (rnI ty.sl25 Z) ?_
      refine AG.stx (i := 1) rfl (by kernel_rfl) (St.callX [(0,0)] [] [0] rfl (by intro s hs;cases hs;decide) rfl Tryz.func35 rfl rfl (l01Below_e g code _ _ _ hcJ9) ⟨rfl,rfl,rfl⟩ (⟨⟨0,rfl,rfl⟩,trivial⟩) (pins_cur) rfl) (exK (l := [0]) rfl rfl) rfl ?_
      rintro _ _ ⟨xz12,oz12,hz12,rfl,rfl⟩
      obtain ⟨i12,q12,hc12,⟨n12,⟨na12,nb12⟩,rfl⟩,rfl⟩ := hz12
      refine gX [2,3,5,6,51,54,55,58] [0,1,2,3,2002,2003,2005,2006] ?_
      refine tq 2 (rgI rfl (by unfold i64;omega)) ?_
      refine AG.stx (i := 9) rfl (by kernel_rfl) (St.callX [(0,0)] [] [0] rfl (by intro s hs;cases hs;decide) rfl Tryz.func35 rfl rfl (l01Below_e g code _ _ _ hc12) ⟨rfl,rfl,rfl⟩ (⟨⟨0,rfl,rfl⟩,trivial⟩) (pins_cur) rfl) (exK (l := [0]) rfl rfl) rfl ?_
      rintro _ _ ⟨xz13,oz13,hz13,rfl,rfl⟩
      obtain ⟨i13,q13,hc13,⟨n13,⟨na13,nb13⟩,rfl⟩,rfl⟩ := hz13
      obtain ⟨m,hm7⟩ := Int.eq_ofNat_of_zero_le na13
      have hk7 : m < yB.length := by have h := h5;simp [length_rowsOf] at h;have := nb13;simp only [length_rowsOf] at this;omega
      have hkk : i64 yB[m].key := (hwB.circles _ (List.getElem_mem hk7)).1
      refine yq 10 (rd (x := .ptr 3 _ 0) (rd_iaddr_own (i := m) rfl ty.el25 rfl rfl rfl ?hn2 (by rw [length_rowsOf];exact hk7)) rfl) ?_
      case hn2 => exact hm7
      refine yq 11 (rf 0 ty.F78_0 Z)<|yq 12 (rd (x := vI _ _) (rd_load_arr Z ty.kd3 Z Z Z (row_map hk7) Z) Z)<|yq 13 (rd (x := .agg [vI _ _,vI _ _,vI _ _,vI _ _,vI _ _,vI _ _,vB false]) (rd_build Z ty.sa29 Z Z Z) Z)<|yl Z (zB 2006 ty.co29 ty.inf29 Z)<|gT ?_
      refine ⟨(_,_,_,yB[m].key,_,_,_,_,_),(by refine ⟨by assumption,?_⟩;simp only [wfEvent,i64,ev7] at *;omega),trivial,⟨rfl,rfl,trivial⟩,rfl,rfl⟩
     ·intro h5
      refine aK<|gT ?_
      refine ⟨(_,_,_,_,_,_,_,_,_),(by refine ⟨by assumption,?_⟩;simp only [wfEvent,i64,ev7] at *;omega),trivial,⟨rfl,rfl,trivial⟩,rfl,rfl⟩
    ·intro h4
     refine lno Z<|lno Z<|lno Z<|lno Z<|lkZ Z<|nG<|aN Z<|aK<|gT ?_
     refine ⟨(_,_,_,_,_,_,_,_,_),(by refine ⟨by assumption,?_⟩;simp only [wfEvent,i64,ev7] at *;omega),trivial,⟨rfl,rfl,trivial⟩,rfl,rfl⟩
   ·intro ⟨iJ11,qJ11,ea11,eb11,ec11,ed11,ee11,ef11,eg11⟩ hJ11
    dsimp only
    obtain ⟨hcJ11,hwJ11⟩ := hJ11
    replace hcJ11 : CurOk code iJ11 := hcJ11
    unfold wfEvent i64 at hwJ11
    simp only [ev7] at hwJ11
    refine aS<|aG 3 [2002]<|tq 0 (roX (.agg [vI _ _,vI _ _,vI _ _,.own _,.own _,.own _]) ty.kd27 Z)<|tq 1 (roX (.agg [vI _ _,vI _ _,vI _ _,vI _ _,vI _ _,vI _ _,vB _]) ty.kd29 Z)<|yst 2 Z (zB 2002 ty.co27 ty.inf27 Z)<|yl Z (zB 2003 ty.co29 ty.inf29 Z)<|gT<|aR ?_
    refine end_xret ((.tup [ownB _ _ _,evV ⟨_,_,_,_,_,_,_⟩])) (obB _ _ _) ?_ rfl ⟨rfl,rfl,rfl,trivial⟩
    exact ⟨_,_,_,_,_,_,_,hwB,by simp only [wfEvent,i64] at *;omega,rfl,rfl⟩

def Amt (n : Int) : Prop := 0 ≤ n ∧ n ≤ 1125899906842624
def There (l : List Chan) (ch : Int) : Prop := ∃ c ∈ l,c.id = ch
structure COk (c : Chan) : Prop where
  id : 1 ≤ c.id ∧ c.id ≤ 99
  loc : Amt c.loc
  remote : Amt c.remote
  base : Amt c.base
  ppm : 0 ≤ c.ppm ∧ c.ppm ≤ 1000000
  score : -100 ≤ c.score ∧ c.score ≤ 100
  size : Amt c.size
structure HOk (l : List Chan) (h : Htlc) : Prop where
  inn : Amt h.amtIn
  out : 1 ≤ h.amtOut ∧ h.amtOut ≤ h.amtIn
  age : Amt h.age
  ne : h.inn ≠ h.out
  ti : There l h.inn
  to : There l h.out
structure IOk (l : List Chan) (h : Circle) : Prop where
  amt : 1 ≤ h.amt ∧ h.amt ≤ 1125899906842624
  fee : Amt h.fee
  ne : h.frm ≠ h.to
  ti : There l h.frm
  to : There l h.to
structure BOk (x : Book) : Prop where
  tick : Amt x.tick
  wallet : Amt x.wallet
  next : 1 ≤ x.next ∧ x.next ≤ 1125899906842624
  lc : x.chans.length ≤ 20
  lh : x.htlcs.length ≤ 60
  li : x.circles.length ≤ 20
  hs : ∀ h ∈ x.htlcs,HOk x.chans h
  cs : ∀ h ∈ x.circles,IOk x.chans h
  kr : ∀ k ∈ keysOf x,1 ≤ k ∧ k ≤ 1000000
  kn : (keysOf x).Pairwise (· ≠ ·)
  asc : x.chans.Pairwise fun a b => a.id < b.id
  ch : ∀ c ∈ x.chans,COk c
  sum : ∀ c ∈ x.chans,c.size = c.loc + c.remote + outOf x c.id + intoOf x c.id
theorem there_at {l : List Chan} {ch : Int} : 0 ≤ chanAt l ch ↔ There l ch := by
  constructor
  · intro h
    obtain ⟨i,c,_,q,_,r⟩ := chan_there h
    exact ⟨c,mem_of_get q,r⟩
  · rintro ⟨c,hc,rfl⟩
    rcases chan_find l c.id with ⟨q,_⟩ | ⟨i,d,q,_⟩
    · exact absurd rfl (no_chan q c hc)
    · omega
theorem two_iff {l : List Chan} {a b : Int} : two l a b = true ↔ a ≠ b ∧ There l a ∧ There l b := by
  unfold two
  simp only [Bool.and_eq_true,Bool.not_eq_true',beq_eq_false_iff_ne,decide_eq_true_eq,there_at]
  constructor
  · rintro ⟨⟨h1,h2⟩,h3⟩;exact ⟨h1,h2,h3⟩
  · rintro ⟨h1,h2,h3⟩;exact ⟨⟨h1,h2⟩,h3⟩
theorem keysOk_iff {ks : List Int} : keysOk ks = true ↔ (∀ k ∈ ks,1 ≤ k ∧ k ≤ 1000000) ∧ ks.Pairwise (· ≠ ·) := by
  constructor
  · intro h
    refine ⟨fun k hk => ?_,keys_pair h⟩
    obtain ⟨j,hj,rfl⟩ := List.getElem_of_mem hk
    have := List.all_eq_true.1 h j (by simpa using hj)
    unfold keyAt at this
    rw [Bool.and_eq_true] at this
    have h1 := this.1
    rw [List.getD_eq_getElem?_getD,List.getElem?_eq_getElem hj] at h1
    exact inB_true.1 h1
  · rintro ⟨h1,h2⟩
    refine keysOk_yes fun j hj => ?_
    unfold keyAt
    rw [Bool.and_eq_true,List.getD_eq_getElem?_getD,List.getElem?_eq_getElem hj]
    refine ⟨inB_true.2 (h1 _ (List.getElem_mem hj)),?_⟩
    unfold hasI
    simp only [Option.getD_some,Bool.not_eq_true',List.any_eq_false,beq_iff_eq]
    intro y hy e
    obtain ⟨i,hi,rfl⟩ := List.getElem_of_mem hy
    rw [List.length_take] at hi
    rw [List.getElem_take] at e
    exact List.pairwise_iff_getElem.1 h2 i j (by omega) hj (by omega) e
theorem chanOk1_iff {c : Chan} : chanOk1 c = true ↔ COk c := by
  constructor
  · intro h
    obtain ⟨h1,h2,h3,h4,h5,h6,h7⟩ := chanOk1_parts h
    exact ⟨h1,h2,h3,h4,h5,h6,h7⟩
  · rintro ⟨h1,h2,h3,h4,h5,h6,h7⟩
    unfold chanOk1 chOk scOk
    simp only [Bool.and_eq_true,amtOk_true,inB_true]
    exact ⟨⟨⟨⟨⟨⟨h1,h2⟩,h3⟩,h4⟩,h5⟩,h6⟩,h7⟩
theorem bOk_of {x : Book} (h : bookOk x = true) : BOk x := by
  obtain ⟨h1,h2,h3,h4,h5,h6⟩ := bookOk_parts h
  obtain ⟨p1,p2,p3,p4,p5⟩ := parts_all h5
  obtain ⟨k1,k2⟩ := keysOk_iff.1 p5
  refine ⟨amtOk_true.1 h1,amtOk_true.1 h2,inB_true.1 h3,h4,p1,p2,fun y hy => ?_,fun y hy => ?_,k1,k2,?_,fun c hc => chanOk1_iff.1 (chan_all h6 hc).1,fun c hc => ?_⟩
  · obtain ⟨q1,q2,q3,q4,q5⟩ := hOk_iff.1 (p3 y hy)
    obtain ⟨r1,r2,r3⟩ := two_iff.1 q5
    exact ⟨amtOk_true.1 q1,⟨q2,q3⟩,amtOk_true.1 q4,r1,r2,r3⟩
  · obtain ⟨q1,q2,q3,q5⟩ := cOk_iff.1 (p4 y hy)
    obtain ⟨r1,r2,r3⟩ := two_iff.1 q5
    exact ⟨⟨q2,(amtOk_true.1 q1).2⟩,amtOk_true.1 q3,r1,r2,r3⟩
  · rw [List.pairwise_iff_getElem]
    intro i j hi hj hij
    exact asc_lt (fun k hk => (chansOk_at h6 hk).2.1) j i hj hij
  · have := (chan_all h6 hc).2
    unfold chanSum at this
    exact beq_iff_eq.1 this
theorem bOk_to {x : Book} (b : BOk x) : bookOk x = true := by
  unfold bookOk partsOk
  simp only [Bool.and_eq_true,amtOk_true,inB_true,decide_eq_true_eq,List.all_eq_true]
  refine ⟨⟨⟨⟨⟨b.tick,b.wallet⟩,b.next⟩,b.lc⟩,⟨⟨⟨b.lh,b.li⟩,fun y hy => ?_⟩,fun y hy => ?_⟩,keysOk_iff.2 ⟨b.kr,b.kn⟩⟩,chansOk_yes fun j hj => ?_⟩
  · have q := b.hs y hy
    exact hOk_iff.2 ⟨amtOk_true.2 q.inn,q.out.1,q.out.2,amtOk_true.2 q.age,two_iff.2 ⟨q.ne,q.ti,q.to⟩⟩
  · have q := b.cs y hy
    have := q.amt
    exact cOk_iff.2 ⟨amtOk_true.2 ⟨by omega,q.amt.2⟩,q.amt.1,amtOk_true.2 q.fee,two_iff.2 ⟨q.ne,q.ti,q.to⟩⟩
  · unfold chanAtOk
    rw [List.getElem?_eq_getElem hj]
    dsimp only
    have hm := List.getElem_mem hj
    rw [Bool.and_eq_true,Bool.and_eq_true]
    refine ⟨⟨chanOk1_iff.2 (b.ch _ hm),?_⟩,?_⟩
    · unfold ascAt
      cases j with
      | zero => rfl
      | succ j =>
        dsimp only
        rw [List.getElem?_eq_getElem (by omega : j < x.chans.length),List.getElem?_eq_getElem hj]
        simpa using List.pairwise_iff_getElem.1 b.asc j (j + 1) (by omega) hj (by omega)
    · unfold chanSum
      exact beq_iff_eq.2 (b.sum _ hm)

theorem tot_cons {α : Type} (f : α → Int) (x : α) (l : List α) : tot f (x :: l) = f x + tot f l := by unfold tot;rw [List.map_cons,List.sum_cons]
theorem tot_snoc {α : Type} (f : α → Int) (l : List α) (x : α) : tot f (l ++ [x]) = tot f l + f x := by unfold tot;rw [List.map_append,List.sum_append];simp
theorem tot_same {α β : Type} {f : α → Int} {g : β → Int} {m : α → β} {l : List α} (h : ∀ x ∈ l,g (m x) = f x) : tot g (l.map m) = tot f l := by
  unfold tot
  rw [List.map_map]
  congr 1
  exact List.map_congr_left h
theorem tot_none {α : Type} {f : α → Int} {l : List α} (h : ∀ x ∈ l,f x = 0) : tot f l = 0 := by
  induction l with
  | nil => rfl
  | cons a l ih => rw [tot_cons,h a (by simp),ih (fun x hx => h x (by simp [hx]))];rfl
theorem tot_filter {α : Type} {g : α → Int} {f : α → Int} {l : List α} (hnd : l.Pairwise fun a b => g a ≠ g b) {h : α} (hm : h ∈ l) : tot f (l.filter fun d => !(g d == g h)) + f h = tot f l := by
  induction l with
  | nil => cases hm
  | cons a l ih =>
    rw [List.pairwise_cons] at hnd
    rcases List.mem_cons.1 hm with rfl | hm'
    · have e : l.filter (fun d => !(g d == g h)) = l := List.filter_eq_self.2 fun d hd => by
        have := hnd.1 d hd
        simp
        exact fun q => this q.symm
      rw [List.filter_cons_of_neg (by simp),e,tot_cons]
      omega
    · have := hnd.1 h hm'
      rw [List.filter_cons_of_pos (by simpa using this),tot_cons,tot_cons]
      have := ih hnd.2 hm'
      omega
theorem there_upd {l : List Chan} {a ch : Int} {f : Chan → Chan} (hf : ∀ c,(f c).id = c.id) (h : There l ch) : There (updC l a f) ch := by
  obtain ⟨c,hc,rfl⟩ := h
  refine ⟨_,List.mem_map_of_mem hc,?_⟩
  split <;> simp [hf]
theorem asc_upd {l : List Chan} {a : Int} {f : Chan → Chan} (hf : ∀ c,(f c).id = c.id) (h : l.Pairwise fun a b => a.id < b.id) : (updC l a f).Pairwise fun a b => a.id < b.id := by
  unfold updC
  rw [List.pairwise_map]
  refine h.imp fun {c d} q => ?_
  have e : ∀ c : Chan,(if c.id = a then f c else c).id = c.id := fun c => by split <;> simp [hf]
  rw [e,e];exact q
theorem mem_upd {l : List Chan} {a : Int} {f : Chan → Chan} {c : Chan} (h : c ∈ updC l a f) : ∃ d ∈ l,c = if d.id = a then f d else d := by
  unfold updC at h
  obtain ⟨d,hd,rfl⟩ := List.mem_map.1 h
  exact ⟨d,hd,rfl⟩
theorem BOk.setNext {x : Book} (b : BOk x) {n : Int} (hn : 1 ≤ n ∧ n ≤ 1125899906842624) : BOk { x with next := n } := ⟨b.tick,b.wallet,hn,b.lc,b.lh,b.li,b.hs,b.cs,b.kr,b.kn,b.asc,b.ch,b.sum⟩
theorem BOk.setWallet {x : Book} (b : BOk x) {n : Int} (hn : Amt n) : BOk { x with wallet := n } := ⟨b.tick,hn,b.next,b.lc,b.lh,b.li,b.hs,b.cs,b.kr,b.kn,b.asc,b.ch,b.sum⟩
theorem BOk.parts {x y : Book} (b : BOk x) (ht : Amt y.tick) (hw : Amt y.wallet) (hn : y.next = x.next) (lc : y.chans.length ≤ 20) (lh : y.htlcs.length ≤ 60) (li : y.circles.length ≤ 20) (hs : ∀ h ∈ y.htlcs,HOk y.chans h) (cs : ∀ h ∈ y.circles,IOk y.chans h) (kr : ∀ k ∈ keysOf y,1 ≤ k ∧ k ≤ 1000000) (kn : (keysOf y).Pairwise (· ≠ ·))
    (asc : y.chans.Pairwise fun a b => a.id < b.id) (ch : ∀ c ∈ y.chans,COk c) (sum : ∀ c ∈ y.chans,c.size = c.loc + c.remote + outOf y c.id + intoOf y c.id) : BOk y := ⟨ht,hw,hn ▸ b.next,lc,lh,li,hs,cs,kr,kn,asc,ch,sum⟩
theorem HOk.chans {l l' : List Chan} {h : Htlc} (q : HOk l h) (k : ∀ ch,There l ch → There l' ch) : HOk l' h := ⟨q.inn,q.out,q.age,q.ne,k _ q.ti,k _ q.to⟩
theorem IOk.chans {l l' : List Chan} {h : Circle} (q : IOk l h) (k : ∀ ch,There l ch → There l' ch) : IOk l' h := ⟨q.amt,q.fee,q.ne,k _ q.ti,k _ q.to⟩
theorem bk_dep {x : Book} {e : Event} (b : BOk x) (ho : overB x e = false) (hk : e.kind = 1) (ha : 0 ≤ e.amt) : BOk (depR x e).b := by
  refine b.setWallet ?_
  have hw := b.wallet
  unfold overB at ho
  by_cases hn : x.next = 1125899906842624
  · rw [if_pos hn] at ho;cases ho
  · rw [if_neg hn,if_pos hk] at ho
    simp only [decide_eq_false_iff_not] at ho
    unfold Amt at *
    omega
theorem fadeC_id (t : Int) (c : Chan) : (fadeC t c).id = c.id := by unfold fadeC;split <;> rfl
theorem bk_tick {x : Book} (b : BOk x) (ho : x.tick ≠ 1125899906842624) : BOk (tickR x).b := by
  have ht := b.tick
  have key : ∀ ch,There x.chans ch → There (x.chans.map (fadeC x.tick)) ch := fun ch ⟨c,hc,q⟩ => ⟨_,List.mem_map_of_mem hc,by rw [fadeC_id,q]⟩
  have o1 : ∀ ch,tot (hOut ch) (x.htlcs.map ageH) = tot (hOut ch) x.htlcs := fun ch => tot_same fun h _ => rfl
  have o2 : ∀ ch,tot (hIn ch) (x.htlcs.map ageH) = tot (hIn ch) x.htlcs := fun ch => tot_same fun h _ => rfl
  have hks : keysOf (tickR x).b = keysOf x := by
    unfold keysOf tickR
    dsimp only
    rw [List.map_map]
    rfl
  refine b.parts ?_ b.wallet rfl ?_ ?_ b.li ?_ (fun h hh => (b.cs h hh).chans key) ?_ ?_ ?_ ?_ ?_
  · show Amt (x.tick + 1)
    unfold Amt at *;omega
  · show (x.chans.map _).length ≤ _
    rw [List.length_map];exact b.lc
  · show (x.htlcs.map _).length ≤ _
    rw [List.length_map];exact b.lh
  · intro h hh
    obtain ⟨d,hd,rfl⟩ := List.mem_map.1 hh
    have q := (b.hs d hd).chans key
    refine ⟨q.inn,q.out,?_,q.ne,q.ti,q.to⟩
    have := q.age
    unfold ageH Amt at *
    dsimp only
    omega
  · rw [hks];exact b.kr
  · rw [hks];exact b.kn
  · show (x.chans.map _).Pairwise _
    rw [List.pairwise_map]
    exact b.asc.imp fun {c d} q => by rw [fadeC_id,fadeC_id];exact q
  · intro c hc
    obtain ⟨d,hd,rfl⟩ := List.mem_map.1 hc
    have q := b.ch d hd
    unfold fadeC
    split
    · exact ⟨q.id,q.loc,q.remote,q.base,q.ppm,fade_le _,q.size⟩
    · exact q
  · intro c hc
    obtain ⟨d,hd,rfl⟩ := List.mem_map.1 hc
    have q := b.sum d hd
    have e : ∀ ch,outOf (tickR x).b ch = outOf x ch ∧ intoOf (tickR x).b ch = intoOf x ch := fun ch => by
      unfold outOf intoOf tickR
      exact ⟨by rw [← o1],by rw [← o2]⟩
    rw [fadeC_id,(e d.id).1,(e d.id).2]
    unfold fadeC
    split <;> exact q
theorem bk_pri {x : Book} {e : Event} (b : BOk x) (ha : Amt e.amt) (hf : 0 ≤ e.fee ∧ e.fee ≤ 1000000) : BOk (priR x e).b := by
  unfold priR
  split
  · exact b
  · have hf' : ∀ c : Chan,({ c with base := e.amt,ppm := e.fee } : Chan).id = c.id := fun _ => rfl
    refine b.parts b.tick b.wallet rfl (by show (updC _ _ _).length ≤ _;rw [upd_len];exact b.lc) b.lh b.li (fun h hh => (b.hs h hh).chans fun ch q => there_upd hf' q) (fun h hh => (b.cs h hh).chans fun ch q => there_upd hf' q) b.kr b.kn (asc_upd hf' b.asc) (fun c hc => ?_) (fun c hc => ?_)
    · obtain ⟨d,hd,rfl⟩ := mem_upd hc
      have q := b.ch d hd
      split
      · exact ⟨q.id,q.loc,q.remote,ha,hf,q.score,q.size⟩
      · exact q
    · obtain ⟨d,hd,rfl⟩ := mem_upd hc
      have q := b.sum d hd
      split <;> exact q
theorem insC_mem {l : List Chan} {c d : Chan} (h : d ∈ l ∨ d = c) : d ∈ insC l c := by
  unfold insC
  simp only [List.mem_append,List.mem_singleton]
  rcases h with h | h
  · have := List.take_append_drop (posC l c.id) l
    rw [← this,List.mem_append] at h
    rcases h with h | h
    · exact .inl (.inl h)
    · exact .inr h
  · exact .inl (.inr h)
theorem insC_asc {l : List Chan} {c : Chan} (h : l.Pairwise fun a b => a.id < b.id) (hn : ∀ d ∈ l,d.id ≠ c.id) : (insC l c).Pairwise fun a b => a.id < b.id := by
  have hp : posC l c.id ≤ l.length := List.findIdx_le_length
  have h1 : ∀ d ∈ l.take (posC l c.id),d.id < c.id := fun d hd => by
    obtain ⟨i,hi,rfl⟩ := List.getElem_of_mem hd
    rw [List.length_take] at hi
    rw [List.getElem_take]
    have := List.not_of_lt_findIdx (p := fun d : Chan => !decide (d.id < c.id)) (xs := l) (i := i) (by unfold posC at hi;omega)
    simpa using this
  have h2 : ∀ d ∈ l.drop (posC l c.id),c.id < d.id := fun d hd => by
    obtain ⟨i,hi,rfl⟩ := List.getElem_of_mem hd
    rw [List.length_drop] at hi
    rw [List.getElem_drop]
    have hlt : posC l c.id < l.length := by omega
    have q0 : ¬ l[posC l c.id].id < c.id := by
      have := List.findIdx_getElem (xs := l) (p := fun d : Chan => !decide (d.id < c.id)) (w := hlt)
      intro r
      rw [show (l[List.findIdx (fun d : Chan => !decide (d.id < c.id)) l]'hlt) = l[posC l c.id] from rfl] at this
      simp [r] at this
    have q1 := hn _ (List.getElem_mem hlt)
    rcases Nat.eq_zero_or_pos i with r | r
    · subst r
      simp only [Nat.add_zero]
      omega
    · have := List.pairwise_iff_getElem.1 h (posC l c.id) (posC l c.id + i) hlt (by omega) (by omega)
      omega
  unfold insC
  rw [List.pairwise_append,List.pairwise_append]
  refine ⟨⟨h.sublist (List.take_sublist _ _),List.pairwise_singleton _ _,fun a ha d hd => ?_⟩,h.sublist (List.drop_sublist _ _),fun a ha d hd => ?_⟩
  · rw [List.mem_singleton] at hd;subst hd;exact h1 a ha
  · rw [List.mem_append,List.mem_singleton] at ha
    rcases ha with ha | rfl
    · have := h1 a ha;have := h2 d hd;omega
    · exact h2 d hd
theorem BOk.none {x : Book} (b : BOk x) {ch : Int} (h : ¬ There x.chans ch) : outOf x ch = 0 ∧ intoOf x ch = 0 := by
  unfold outOf intoOf
  rw [tot_none fun y hy => ?_,tot_none fun y hy => ?_,tot_none fun y hy => ?_,tot_none fun y hy => ?_]
  · exact ⟨rfl,rfl⟩
  · unfold cIn;split
    · rename_i q;exact absurd (q ▸ (b.cs y hy).to) h
    · rfl
  · unfold hIn;split
    · rename_i q;exact absurd (q ▸ (b.hs y hy).ti) h
    · rfl
  · unfold cOut;split
    · rename_i q;exact absurd (q ▸ (b.cs y hy).ti) h
    · rfl
  · unfold hOut;split
    · rename_i q;exact absurd (q ▸ (b.hs y hy).to) h
    · rfl
theorem bk_open {x : Book} {e : Event} (b : BOk x) (hsum : e.amt + e.fee ≤ 1125899906842624) (ha : 0 ≤ e.amt) (hf : 0 ≤ e.fee) (hid : 1 ≤ e.ch ∧ e.ch ≤ 99) (hc : openC x e = 0) : BOk (openR x e).b := by
  rw [openR_yes hc]
  have hno := no_chan (opC_no hc)
  have hnt : ¬ There x.chans e.ch := fun ⟨c,q1,q2⟩ => hno c q1 q2
  have hlc : ¬ (20 : Int) ≤ (x.chans.length : Int) := fun q => by
    unfold openC at hc
    rw [decide_eq_true q,Bool.or_true] at hc
    exact failC_keep (failC_set (by decide)) hc
  have hwl : ¬ x.wallet < e.amt := fun q => by
    unfold openC at hc
    rw [decide_eq_true q] at hc
    exact failC_set (by decide) hc
  have hw := b.wallet
  have key : ∀ ch,There x.chans ch → There (insC x.chans (newC e)) ch := fun ch ⟨c,q1,q2⟩ => ⟨c,insC_mem (.inl q1),q2⟩
  refine b.parts b.tick ?_ rfl ?_ b.lh b.li (fun h hh => (b.hs h hh).chans key) (fun h hh => (b.cs h hh).chans key) b.kr b.kn (insC_asc b.asc hno) (fun c hc => ?_) (fun c hc => ?_)
  · show Amt (x.wallet - e.amt)
    unfold Amt at *;omega
  · show (insC x.chans _).length ≤ _
    rw [insC_len];omega
  · rcases mem_insC hc with q | rfl
    · exact b.ch c q
    · exact ⟨hid,⟨ha,by dsimp only;omega⟩,⟨hf,by dsimp only;omega⟩,⟨Int.le_refl _,by dsimp only;omega⟩,⟨Int.le_refl _,by dsimp only;omega⟩,⟨by dsimp only;omega,by dsimp only;omega⟩,⟨by dsimp only;omega,hsum⟩⟩
  · rcases mem_insC hc with q | rfl
    · exact b.sum c q
    · obtain ⟨q1,q2⟩ := b.none hnt
      show e.amt + e.fee = e.amt + e.fee + outOf x e.ch + intoOf x e.ch
      rw [q1,q2];omega

theorem failC_zero {b : Bool} {c k : Int} (hk : k ≠ 0) (h : failC b c k = 0) : c = 0 ∧ b = false := by
  unfold failC at h
  split at h
  · exact absurd h hk
  · rename_i q
    subst h
    exact ⟨rfl,by simpa using q⟩
theorem chanOr_eq {l : List Chan} (ha : l.Pairwise fun a b => a.id < b.id) {d : Chan} (hd : d ∈ l) : chanOr l d.id = d := by
  rcases chan_find l d.id with ⟨q,_⟩ | ⟨i,c,q1,q2,q3,q4⟩
  · exact absurd rfl (no_chan q d hd)
  · rw [q3]
    have hp : l.Pairwise fun a b => a.id ≠ b.id := ha.imp fun h => by omega
    obtain ⟨j,hj,e⟩ := List.getElem_of_mem hd
    have : i = j := pair_at (g := fun c => c.id) hp q2 (by rw [List.getElem?_eq_getElem hj,e]) q4
    subst this
    rw [List.getElem?_eq_getElem hj,e] at q2
    injection q2 with q2
    exact q2.symm
theorem known_no {x : Book} {k : Int} (h : knownB x k = false) : ∀ y ∈ keysOf x,k ≠ y := fun y hy e => by
  have := any_keys x k
  rw [h] at this
  unfold keyL at this
  unfold keysOf at hy
  have := List.any_eq_false.1 this y hy
  simp [e] at this
theorem upd2_cases {l : List Chan} {a b : Int} {f g : Chan → Chan} (hf : ∀ c,(f c).id = c.id) (hab : a ≠ b) {c : Chan} (h : c ∈ updC (updC l a f) b g) : ∃ d ∈ l,(d.id = a ∧ c = f d) ∨ (d.id = b ∧ c = g d) ∨ (d.id ≠ a ∧ d.id ≠ b ∧ c = d) := by
  obtain ⟨d',hd',rfl⟩ := mem_upd h
  obtain ⟨d,hd,rfl⟩ := mem_upd hd'
  refine ⟨d,hd,?_⟩
  by_cases q1 : d.id = a
  · rw [if_pos q1,if_neg (by rw [hf];omega)]
    exact .inl ⟨q1,rfl⟩
  · rw [if_neg q1]
    by_cases q2 : d.id = b
    · rw [if_pos q2];exact .inr (.inl ⟨q2,rfl⟩)
    · rw [if_neg q2];exact .inr (.inr ⟨q1,q2,rfl⟩)
theorem bk_adm {x : Book} {e : Event} (b : BOk x) (hne : e.ch ≠ e.to) (hkey : 1 ≤ e.key ∧ e.key ≤ 1000000) (ha : 1 ≤ e.amt) (hc : admC x e = 0) : BOk (admR x e).b := by
  rw [admR_yes hc]
  have h1 : admC1 x e = 0 := by
    by_cases q : admC1 x e = 0
    · exact q
    · rw [admC_one q] at hc;exact hc
  unfold admC1 at h1
  obtain ⟨h2,g1⟩ := failC_zero (by decide) h1
  obtain ⟨h3,g2⟩ := failC_zero (by decide) h2
  obtain ⟨h4,g3⟩ := failC_zero (by decide) h3
  unfold admC0 at h4
  rw [miss_two hne] at h4
  obtain ⟨h5,g4⟩ := failC_zero (by decide) h4
  obtain ⟨h6,g5⟩ := failC_zero (by decide) h5
  obtain ⟨_,g6⟩ := failC_zero (by decide) h6
  have g5' : two x.chans e.ch e.to = true := by simpa using g5
  obtain ⟨_,t1,t2⟩ := two_iff.1 g5'
  simp only [decide_eq_false_iff_not] at g1 g2 g4
  unfold admBad at g3
  rw [Bool.or_eq_false_iff,Bool.not_eq_false',Bool.not_eq_false'] at g3
  have hs : admSum x e = e.amt + feeV (chanOr x.chans e.to).base (chanOr x.chans e.to).ppm e.amt := addV_yes g3.2
  have hok := g3.2
  unfold addOk at hok
  simp only [Bool.and_eq_true,amtOk_true] at hok
  have hsum : Amt (admSum x e) ∧ e.amt ≤ admSum x e := by rw [hs];unfold Amt;omega
  have f1 : ∀ c : Chan,({ c with remote := c.remote - admSum x e } : Chan).id = c.id := fun _ => rfl
  have f2 : ∀ c : Chan,({ c with loc := c.loc - e.amt } : Chan).id = c.id := fun _ => rfl
  have key : ∀ ch,There x.chans ch → There (admY x e).b.chans ch := fun ch q => there_upd f2 (there_upd f1 q)
  have ho : ∀ ch,outOf (admY x e).b ch = outOf x ch + (if e.to = ch then e.amt else 0) := fun ch => by
    unfold outOf admY
    dsimp only
    rw [tot_snoc]
    unfold hOut
    dsimp only
    omega
  have hi : ∀ ch,intoOf (admY x e).b ch = intoOf x ch + (if e.ch = ch then admSum x e else 0) := fun ch => by
    unfold intoOf admY
    dsimp only
    rw [tot_snoc]
    unfold hIn
    dsimp only
    omega
  have hkn := known_no g6
  have hks : (keysOf (admY x e).b).Perm (e.key :: keysOf x) := by
    unfold keysOf admY
    dsimp only
    rw [List.map_append,List.append_assoc]
    exact List.perm_middle
  refine b.parts b.tick b.wallet rfl ?_ ?_ b.li (fun h hh => ?_) (fun h hh => (b.cs h hh).chans key) (fun k hk => ?_) ?_ (asc_upd f2 (asc_upd f1 b.asc)) (fun c hc => ?_) (fun c hc => ?_)
  · show (updC (updC _ _ _) _ _).length ≤ _
    rw [upd_len,upd_len];exact b.lc
  · show (x.htlcs ++ [_]).length ≤ _
    simp
    omega
  · rcases List.mem_append.1 hh with hh | hh
    · exact (b.hs h hh).chans key
    · rw [List.mem_singleton] at hh
      subst hh
      exact ⟨hsum.1,⟨ha,hsum.2⟩,⟨Int.le_refl _,by dsimp only;omega⟩,hne,key _ t1,key _ t2⟩
  · rcases List.mem_cons.1 (hks.mem_iff.1 hk) with rfl | hk
    · exact hkey
    · exact b.kr k hk
  · exact (List.Perm.pairwise_iff (fun h => Ne.symm h) hks).2 (List.pairwise_cons.2 ⟨hkn,b.kn⟩)
  · obtain ⟨d,hd,q | q | q⟩ := upd2_cases f1 hne hc
    · have k := b.ch d hd
      have e1 := chanOr_eq b.asc hd
      rw [q.1] at e1
      rw [e1] at g2
      have := k.remote
      rw [q.2]
      refine ⟨k.id,k.loc,?_,k.base,k.ppm,k.score,k.size⟩
      have := hsum.1
      unfold Amt at *
      dsimp only
      omega
    · have k := b.ch d hd
      have e1 := chanOr_eq b.asc hd
      rw [q.1] at e1
      rw [e1] at g1
      have := k.loc
      rw [q.2]
      refine ⟨k.id,?_,k.remote,k.base,k.ppm,k.score,k.size⟩
      unfold Amt at *
      dsimp only
      omega
    · rw [q.2.2];exact b.ch d hd
  · obtain ⟨d,hd,q | q | q⟩ := upd2_cases f1 hne hc
    · have k := b.sum d hd
      rw [q.2]
      dsimp only
      rw [ho,hi,if_neg (by omega),if_pos q.1.symm]
      omega
    · have k := b.sum d hd
      rw [q.2]
      dsimp only
      rw [ho,hi,if_pos q.1.symm,if_neg (by omega)]
      omega
    · have k := b.sum d hd
      rw [q.2.2,ho,hi,if_neg (fun r => q.2.1 r.symm),if_neg (fun r => q.1 r.symm)]
      omega
theorem bk_lau {x : Book} {e : Event} (b : BOk x) (hne : e.ch ≠ e.to) (hkey : 1 ≤ e.key ∧ e.key ≤ 1000000) (ha : 1 ≤ e.amt) (hc : lauC x e = 0) : BOk (lauR x e).b := by
  rw [lauR_yes hc]
  unfold lauC at hc
  obtain ⟨h2,g1⟩ := failC_zero (by decide) hc
  obtain ⟨h3,g2⟩ := failC_zero (by decide) h2
  obtain ⟨h4,g3⟩ := failC_zero (by decide) h3
  unfold lauC0 at h4
  rw [miss_two hne] at h4
  obtain ⟨h5,g4⟩ := failC_zero (by decide) h4
  obtain ⟨h6,g5⟩ := failC_zero (by decide) h5
  obtain ⟨_,g6⟩ := failC_zero (by decide) h6
  have g5' : two x.chans e.ch e.to = true := by simpa using g5
  obtain ⟨_,t1,t2⟩ := two_iff.1 g5'
  simp only [decide_eq_false_iff_not] at g1 g2 g4
  have g3' : addOk e.amt e.fee = true := by simpa using g3
  have hs := addV_yes g3'
  unfold addOk at g3'
  simp only [Bool.and_eq_true,amtOk_true] at g3'
  rw [hs] at g2
  have f1 : ∀ c : Chan,({ c with loc := c.loc - addV e.amt e.fee } : Chan).id = c.id := fun _ => rfl
  have f2 : ∀ c : Chan,({ c with remote := c.remote - e.amt } : Chan).id = c.id := fun _ => rfl
  have key : ∀ ch,There x.chans ch → There (lauY x e).b.chans ch := fun ch q => there_upd f2 (there_upd f1 q)
  have ho : ∀ ch,outOf (lauY x e).b ch = outOf x ch + (if e.ch = ch then e.amt + e.fee else 0) := fun ch => by
    unfold outOf lauY
    dsimp only
    rw [tot_snoc]
    unfold cOut
    dsimp only
    omega
  have hi : ∀ ch,intoOf (lauY x e).b ch = intoOf x ch + (if e.to = ch then e.amt else 0) := fun ch => by
    unfold intoOf lauY
    dsimp only
    rw [tot_snoc]
    unfold cIn
    dsimp only
    omega
  have hkn := known_no g6
  have hks : (keysOf (lauY x e).b).Perm (e.key :: keysOf x) := by
    unfold keysOf lauY
    dsimp only
    rw [List.map_append,← List.append_assoc]
    exact List.perm_append_singleton _ _
  refine b.parts b.tick b.wallet rfl ?_ b.lh ?_ (fun h hh => (b.hs h hh).chans key) (fun h hh => ?_) (fun k hk => ?_) ?_ (asc_upd f2 (asc_upd f1 b.asc)) (fun c hc => ?_) (fun c hc => ?_)
  · show (updC (updC _ _ _) _ _).length ≤ _
    rw [upd_len,upd_len];exact b.lc
  · show (x.circles ++ [_]).length ≤ _
    simp
    omega
  · rcases List.mem_append.1 hh with hh | hh
    · exact (b.cs h hh).chans key
    · rw [List.mem_singleton] at hh
      subst hh
      exact ⟨⟨ha,by dsimp only;omega⟩,⟨g3'.1.2.1,g3'.1.2.2⟩,hne,key _ t1,key _ t2⟩
  · rcases List.mem_cons.1 (hks.mem_iff.1 hk) with rfl | hk
    · exact hkey
    · exact b.kr k hk
  · exact (List.Perm.pairwise_iff (fun h => Ne.symm h) hks).2 (List.pairwise_cons.2 ⟨hkn,b.kn⟩)
  · obtain ⟨d,hd,q | q | q⟩ := upd2_cases f1 hne hc
    · have k := b.ch d hd
      have e1 := chanOr_eq b.asc hd
      rw [q.1] at e1
      rw [e1] at g2
      have := k.loc
      rw [q.2]
      refine ⟨k.id,?_,k.remote,k.base,k.ppm,k.score,k.size⟩
      unfold Amt at *
      dsimp only
      rw [hs]
      omega
    · have k := b.ch d hd
      have e1 := chanOr_eq b.asc hd
      rw [q.1] at e1
      rw [e1] at g1
      have := k.remote
      rw [q.2]
      refine ⟨k.id,k.loc,?_,k.base,k.ppm,k.score,k.size⟩
      unfold Amt at *
      dsimp only
      omega
    · rw [q.2.2];exact b.ch d hd
  · obtain ⟨d,hd,q | q | q⟩ := upd2_cases f1 hne hc
    · have k := b.sum d hd
      rw [q.2]
      dsimp only
      rw [ho,hi,if_pos q.1.symm,if_neg (by omega),hs]
      omega
    · have k := b.sum d hd
      rw [q.2]
      dsimp only
      rw [ho,hi,if_neg (by omega),if_pos q.1.symm]
      omega
    · have k := b.sum d hd
      rw [q.2.2,ho,hi,if_neg (fun r => q.1 r.symm),if_neg (fun r => q.2.1 r.symm)]
      omega

theorem outs_l {L : List Chan} {l : List Htlc} {m : List Circle} (hs : ∀ h ∈ l,HOk L h) (cs : ∀ h ∈ m,IOk L h) (ch : Int) : 0 ≤ tot (hOut ch) l ∧ 0 ≤ tot (hIn ch) l ∧ 0 ≤ tot (cOut ch) m ∧ 0 ≤ tot (cIn ch) m := by
  refine ⟨?_,?_,?_,?_⟩
  · refine (tot_le (hOut ch) 1125899906842624 (by decide) l fun y hy => ?_).1
    have := (hs y hy).out
    have := (hs y hy).inn
    unfold Amt at this
    unfold hOut;split <;> omega
  · refine (tot_le (hIn ch) 1125899906842624 (by decide) l fun y hy => ?_).1
    have := (hs y hy).inn
    unfold Amt at this
    unfold hIn;split <;> omega
  · refine (tot_le (cOut ch) 2251799813685248 (by decide) m fun y hy => ?_).1
    have := (cs y hy).amt
    have := (cs y hy).fee
    unfold Amt at this
    unfold cOut;split <;> omega
  · refine (tot_le (cIn ch) 1125899906842624 (by decide) m fun y hy => ?_).1
    have := (cs y hy).amt
    unfold cIn;split <;> omega
theorem hks_of {x : Book} (b : BOk x) : (x.htlcs.Pairwise fun a b => a.key ≠ b.key) ∧ x.circles.Pairwise fun a b => a.key ≠ b.key := by
  have h := b.kn
  unfold keysOf at h
  rw [List.pairwise_append] at h
  exact ⟨List.pairwise_map.1 h.1,List.pairwise_map.1 h.2.1⟩
theorem bk_end {x y : Book} (b : BOk x) {h : Htlc} (hm : h ∈ x.htlcs) {f g : Chan → Chan} (hy1 : y.htlcs = delH x.htlcs h.key) (hy2 : y.circles = x.circles) (hy3 : y.chans = updC (updC x.chans h.inn f) h.out g) (hy4 : y.tick = x.tick) (hy5 : y.wallet = x.wallet) (hy6 : y.next = x.next)
    (f1 : ∀ c,(f c).id = c.id ∧ (f c).size = c.size ∧ (f c).base = c.base ∧ (f c).ppm = c.ppm ∧ (f c).loc + (f c).remote = c.loc + c.remote + h.amtIn ∧ c.loc ≤ (f c).loc ∧ c.remote ≤ (f c).remote ∧ (-100 ≤ (f c).score ∧ (f c).score ≤ 100))
    (g1 : ∀ c,(g c).id = c.id ∧ (g c).size = c.size ∧ (g c).base = c.base ∧ (g c).ppm = c.ppm ∧ (g c).loc + (g c).remote = c.loc + c.remote + h.amtOut ∧ c.loc ≤ (g c).loc ∧ c.remote ≤ (g c).remote ∧ (g c).score = c.score) : BOk y := by
  have q := b.hs h hm
  have hne := q.ne
  have fi : ∀ c,(f c).id = c.id := fun c => (f1 c).1
  have gi : ∀ c,(g c).id = c.id := fun c => (g1 c).1
  have key : ∀ ch,There x.chans ch → There y.chans ch := fun ch r => by rw [hy3];exact there_upd gi (there_upd fi r)
  have hsub : ∀ z ∈ y.htlcs,z ∈ x.htlcs := fun z hz => by rw [hy1] at hz;exact (List.mem_filter.1 hz).1
  have hs' : ∀ z ∈ y.htlcs,HOk x.chans z := fun z hz => b.hs z (hsub z hz)
  have cs' : ∀ z ∈ y.circles,IOk x.chans z := fun z hz => b.cs z (hy2 ▸ hz)
  have ho : ∀ ch,outOf y ch + hOut ch h = outOf x ch := fun ch => by
    unfold outOf
    have := tot_filter (g := fun z : Htlc => z.key) (f := hOut ch) (hks_of b).1 hm
    rw [hy1,hy2]
    unfold delH
    omega
  have hi : ∀ ch,intoOf y ch + hIn ch h = intoOf x ch := fun ch => by
    unfold intoOf
    have := tot_filter (g := fun z : Htlc => z.key) (f := hIn ch) (hks_of b).1 hm
    rw [hy1,hy2]
    unfold delH
    omega
  have hsl : (keysOf y).Sublist (keysOf x) := by
    unfold keysOf
    rw [hy1,hy2]
    exact (List.filter_sublist.map _).append (List.Sublist.refl _)
  have hlen : y.htlcs.length ≤ 60 := by
    rw [hy1]
    have h1 : (delH x.htlcs h.key).length ≤ x.htlcs.length := List.length_filter_le _ _
    have := b.lh
    omega
  refine b.parts (hy4 ▸ b.tick) (hy5 ▸ b.wallet) hy6 (by rw [hy3,upd_len,upd_len];exact b.lc) hlen (hy2 ▸ b.li) (fun z hz => (hs' z hz).chans key) (fun z hz => (cs' z hz).chans key) (fun k hk => b.kr k (hsl.subset hk)) (b.kn.sublist hsl) (by rw [hy3];exact asc_upd gi (asc_upd fi b.asc)) (fun c hc => ?_) (fun c hc => ?_)
  · rw [hy3] at hc
    obtain ⟨d,hd,r | r | r⟩ := upd2_cases fi hne hc
    · have k := b.ch d hd
      have s := b.sum d hd
      have o := outs_l hs' cs' d.id
      have e1 := ho d.id
      have e2 := hi d.id
      unfold hOut at e1
      unfold hIn at e2
      rw [if_neg (by omega)] at e1
      rw [if_pos r.1.symm] at e2
      unfold outOf at e1 s
      unfold intoOf at e2 s
      obtain ⟨w1,w2,w3,w4,w5,w6,w7,w8⟩ := f1 d
      have k2 := k.loc
      have k3 := k.remote
      have k4 := k.size
      have k5 := outs_l b.hs b.cs d.id
      rw [r.2]
      unfold Amt at *
      exact ⟨w1 ▸ k.id,by unfold Amt;omega,by unfold Amt;omega,w3 ▸ k.base,w4 ▸ k.ppm,w8,w2 ▸ k.size⟩
    · have k := b.ch d hd
      have s := b.sum d hd
      have o := outs_l hs' cs' d.id
      have e1 := ho d.id
      have e2 := hi d.id
      unfold hOut at e1
      unfold hIn at e2
      rw [if_pos r.1.symm] at e1
      rw [if_neg (by omega)] at e2
      unfold outOf at e1 s
      unfold intoOf at e2 s
      obtain ⟨w1,w2,w3,w4,w5,w6,w7,w8⟩ := g1 d
      have k2 := k.loc
      have k3 := k.remote
      have k4 := k.size
      have k5 := outs_l b.hs b.cs d.id
      rw [r.2]
      unfold Amt at *
      exact ⟨w1 ▸ k.id,by unfold Amt;omega,by unfold Amt;omega,w3 ▸ k.base,w4 ▸ k.ppm,w8 ▸ k.score,w2 ▸ k.size⟩
    · rw [r.2.2];exact b.ch d hd
  · rw [hy3] at hc
    obtain ⟨d,hd,r | r | r⟩ := upd2_cases fi hne hc
    · have s := b.sum d hd
      have e1 := ho d.id
      have e2 := hi d.id
      unfold hOut at e1
      unfold hIn at e2
      rw [if_neg (by omega)] at e1
      rw [if_pos r.1.symm] at e2
      obtain ⟨w1,w2,w3,w4,w5,_⟩ := f1 d
      rw [r.2,w1,w2]
      omega
    · have s := b.sum d hd
      have e1 := ho d.id
      have e2 := hi d.id
      unfold hOut at e1
      unfold hIn at e2
      rw [if_pos r.1.symm] at e1
      rw [if_neg (by omega)] at e2
      obtain ⟨w1,w2,w3,w4,w5,_⟩ := g1 d
      rw [r.2,w1,w2]
      omega
    · have s := b.sum d hd
      have e1 := ho d.id
      have e2 := hi d.id
      unfold hOut at e1
      unfold hIn at e2
      rw [if_neg (fun z => r.2.1 z.symm)] at e1
      rw [if_neg (fun z => r.1 z.symm)] at e2
      rw [r.2.2]
      omega
theorem bk_set {x : Book} {e : Event} (b : BOk x) : BOk (setR x e).b := by
  unfold setR
  split
  · rename_i h hf
    have hm := List.mem_of_find?_eq_some hf
    have q := b.hs h hm
    have q1 := q.inn
    have q2 := q.out
    unfold Amt at q1
    unfold setY
    split
    · exact bk_end b hm rfl rfl rfl rfl rfl rfl (fun c => ⟨rfl,rfl,rfl,rfl,by dsimp only;omega,by dsimp only;omega,Int.le_refl _,scoreUp_le _⟩) (fun c => ⟨rfl,rfl,rfl,rfl,by dsimp only;omega,Int.le_refl _,by dsimp only;omega,rfl⟩)
    · exact bk_end b hm rfl rfl rfl rfl rfl rfl (fun c => ⟨rfl,rfl,rfl,rfl,by dsimp only;omega,Int.le_refl _,by dsimp only;omega,scoreDown_le _⟩) (fun c => ⟨rfl,rfl,rfl,rfl,by dsimp only;omega,by dsimp only;omega,Int.le_refl _,rfl⟩)
  · exact b

theorem bk_endI {x y : Book} (b : BOk x) {h : Circle} (hm : h ∈ x.circles) {f g : Chan → Chan} (hy1 : y.circles = delI x.circles h.key) (hy2 : y.htlcs = x.htlcs) (hy3 : y.chans = updC (updC x.chans h.frm f) h.to g) (hy4 : y.tick = x.tick) (hy5 : y.wallet = x.wallet) (hy6 : y.next = x.next)
    (f1 : ∀ c,(f c).id = c.id ∧ (f c).size = c.size ∧ (f c).base = c.base ∧ (f c).ppm = c.ppm ∧ (f c).loc + (f c).remote = c.loc + c.remote + (h.amt + h.fee) ∧ c.loc ≤ (f c).loc ∧ c.remote ≤ (f c).remote ∧ (f c).score = c.score)
    (g1 : ∀ c,(g c).id = c.id ∧ (g c).size = c.size ∧ (g c).base = c.base ∧ (g c).ppm = c.ppm ∧ (g c).loc + (g c).remote = c.loc + c.remote + h.amt ∧ c.loc ≤ (g c).loc ∧ c.remote ≤ (g c).remote ∧ (g c).score = c.score) : BOk y := by
  have q := b.cs h hm
  have hne := q.ne
  have fi : ∀ c,(f c).id = c.id := fun c => (f1 c).1
  have gi : ∀ c,(g c).id = c.id := fun c => (g1 c).1
  have key : ∀ ch,There x.chans ch → There y.chans ch := fun ch r => by rw [hy3];exact there_upd gi (there_upd fi r)
  have hsub : ∀ z ∈ y.circles,z ∈ x.circles := fun z hz => by rw [hy1] at hz;exact (List.mem_filter.1 hz).1
  have hs' : ∀ z ∈ y.htlcs,HOk x.chans z := fun z hz => b.hs z (hy2 ▸ hz)
  have cs' : ∀ z ∈ y.circles,IOk x.chans z := fun z hz => b.cs z (hsub z hz)
  have ho : ∀ ch,outOf y ch + cOut ch h = outOf x ch := fun ch => by
    unfold outOf
    have := tot_filter (g := fun z : Circle => z.key) (f := cOut ch) (hks_of b).2 hm
    rw [hy1,hy2]
    unfold delI
    omega
  have hi : ∀ ch,intoOf y ch + cIn ch h = intoOf x ch := fun ch => by
    unfold intoOf
    have := tot_filter (g := fun z : Circle => z.key) (f := cIn ch) (hks_of b).2 hm
    rw [hy1,hy2]
    unfold delI
    omega
  have hsl : (keysOf y).Sublist (keysOf x) := by
    unfold keysOf
    rw [hy1,hy2]
    exact (List.Sublist.refl _).append (List.filter_sublist.map _)
  have hlen : y.circles.length ≤ 20 := by
    rw [hy1]
    have h1 : (delI x.circles h.key).length ≤ x.circles.length := List.length_filter_le _ _
    have := b.li
    omega
  refine b.parts (hy4 ▸ b.tick) (hy5 ▸ b.wallet) hy6 (by rw [hy3,upd_len,upd_len];exact b.lc) (hy2 ▸ b.lh) hlen (fun z hz => (hs' z hz).chans key) (fun z hz => (cs' z hz).chans key) (fun k hk => b.kr k (hsl.subset hk)) (b.kn.sublist hsl) (by rw [hy3];exact asc_upd gi (asc_upd fi b.asc)) (fun c hc => ?_) (fun c hc => ?_)
  · rw [hy3] at hc
    obtain ⟨d,hd,r | r | r⟩ := upd2_cases fi hne hc
    · have k := b.ch d hd
      have s := b.sum d hd
      have o := outs_l hs' cs' d.id
      have e1 := ho d.id
      have e2 := hi d.id
      unfold cOut at e1
      unfold cIn at e2
      rw [if_pos r.1.symm] at e1
      rw [if_neg (by omega)] at e2
      unfold outOf at e1 s
      unfold intoOf at e2 s
      obtain ⟨w1,w2,w3,w4,w5,w6,w7,w8⟩ := f1 d
      have k2 := k.loc
      have k3 := k.remote
      have k4 := k.size
      have k5 := outs_l b.hs b.cs d.id
      rw [r.2]
      unfold Amt at *
      exact ⟨w1 ▸ k.id,by unfold Amt;omega,by unfold Amt;omega,w3 ▸ k.base,w4 ▸ k.ppm,w8 ▸ k.score,w2 ▸ k.size⟩
    · have k := b.ch d hd
      have s := b.sum d hd
      have o := outs_l hs' cs' d.id
      have e1 := ho d.id
      have e2 := hi d.id
      unfold cOut at e1
      unfold cIn at e2
      rw [if_neg (by omega)] at e1
      rw [if_pos r.1.symm] at e2
      unfold outOf at e1 s
      unfold intoOf at e2 s
      obtain ⟨w1,w2,w3,w4,w5,w6,w7,w8⟩ := g1 d
      have k2 := k.loc
      have k3 := k.remote
      have k4 := k.size
      have k5 := outs_l b.hs b.cs d.id
      rw [r.2]
      unfold Amt at *
      exact ⟨w1 ▸ k.id,by unfold Amt;omega,by unfold Amt;omega,w3 ▸ k.base,w4 ▸ k.ppm,w8 ▸ k.score,w2 ▸ k.size⟩
    · rw [r.2.2];exact b.ch d hd
  · rw [hy3] at hc
    obtain ⟨d,hd,r | r | r⟩ := upd2_cases fi hne hc
    · have s := b.sum d hd
      have e1 := ho d.id
      have e2 := hi d.id
      unfold cOut at e1
      unfold cIn at e2
      rw [if_pos r.1.symm] at e1
      rw [if_neg (by omega)] at e2
      obtain ⟨w1,w2,w3,w4,w5,_⟩ := f1 d
      rw [r.2,w1,w2]
      omega
    · have s := b.sum d hd
      have e1 := ho d.id
      have e2 := hi d.id
      unfold cOut at e1
      unfold cIn at e2
      rw [if_neg (by omega)] at e1
      rw [if_pos r.1.symm] at e2
      obtain ⟨w1,w2,w3,w4,w5,_⟩ := g1 d
      rw [r.2,w1,w2]
      omega
    · have s := b.sum d hd
      have e1 := ho d.id
      have e2 := hi d.id
      unfold cOut at e1
      unfold cIn at e2
      rw [if_neg (fun z => r.1 z.symm)] at e1
      rw [if_neg (fun z => r.2.1 z.symm)] at e2
      rw [r.2.2]
      omega
theorem bk_land {x : Book} {e : Event} (b : BOk x) : BOk (landR x e).b := by
  unfold landR
  split
  · rename_i h hf
    have hm := List.mem_of_find?_eq_some hf
    have q := b.cs h hm
    have q1 := q.amt
    have q2 := q.fee
    unfold Amt at q2
    unfold landY
    split
    · exact bk_endI b hm rfl rfl rfl rfl rfl rfl (fun c => ⟨rfl,rfl,rfl,rfl,by dsimp only;omega,Int.le_refl _,by dsimp only;omega,rfl⟩) (fun c => ⟨rfl,rfl,rfl,rfl,by dsimp only;omega,by dsimp only;omega,Int.le_refl _,rfl⟩)
    · exact bk_endI b hm rfl rfl rfl rfl rfl rfl (fun c => ⟨rfl,rfl,rfl,rfl,by dsimp only;omega,by dsimp only;omega,Int.le_refl _,rfl⟩) (fun c => ⟨rfl,rfl,rfl,rfl,by dsimp only;omega,Int.le_refl _,by dsimp only;omega,rfl⟩)
  · exact b
theorem bk_shut {x : Book} {e : Event} (b : BOk x) (hf : 0 ≤ e.fee) (hk : e.kind = 3) (ho : overB x e = false) (hc : shutC x e = 0) : BOk (shutR x e).b := by
  rw [shutR_yes hc]
  unfold shutC at hc
  obtain ⟨h2,g1⟩ := failC_zero (by decide) hc
  obtain ⟨h3,g2⟩ := failC_zero (by decide) h2
  simp only [decide_eq_false_iff_not] at g1
  rcases chan_find x.chans e.ch with ⟨q,_⟩ | ⟨i,c,q,q2,q3,q4⟩
  · rw [missC_none q] at h3;exact absurd h3 (failC_set (by decide))
  have hcm := mem_of_get q2
  have hcc := b.ch c hcm
  have hl := hcc.loc
  rw [q3] at g1
  have hov : ¬ 1125899906842624 < x.wallet + c.loc - e.fee := by
    unfold overB at ho
    by_cases hn : x.next = 1125899906842624
    · rw [if_pos hn] at ho;cases ho
    · rw [if_neg hn,if_neg (by omega),if_neg (by omega),if_pos ⟨hk,by omega⟩,q3] at ho
      simpa using ho
  have hw := b.wallet
  unfold usedB at g2
  rw [Bool.or_eq_false_iff] at g2
  have u1 : ∀ h ∈ x.htlcs,h.inn ≠ e.ch ∧ h.out ≠ e.ch := fun h hh => by
    have := List.any_eq_false.1 g2.1 h hh
    unfold hUses at this
    simpa [not_or] using this
  have u2 : ∀ h ∈ x.circles,h.frm ≠ e.ch ∧ h.to ≠ e.ch := fun h hh => by
    have := List.any_eq_false.1 g2.2 h hh
    unfold cUses at this
    simpa [not_or] using this
  have key : ∀ ch,ch ≠ e.ch → There x.chans ch → There (delC x.chans e.ch) ch := fun ch hne ⟨d,hd,r⟩ => ⟨d,List.mem_filter.2 ⟨hd,by simpa [r] using hne⟩,r⟩
  have hsub : ∀ d ∈ delC x.chans e.ch,d ∈ x.chans := fun d hd => (List.mem_filter.1 hd).1
  refine b.parts b.tick ?_ rfl ?_ b.lh b.li (fun h hh => ?_) (fun h hh => ?_) b.kr b.kn (b.asc.sublist List.filter_sublist) (fun d hd => b.ch d (hsub d hd)) (fun d hd => b.sum d (hsub d hd))
  · show Amt (x.wallet + ((chanOr x.chans e.ch).loc - e.fee))
    rw [q3]
    unfold Amt at *
    omega
  · have h1 : (delC x.chans e.ch).length ≤ x.chans.length := List.length_filter_le _ _
    have := b.lc
    show (delC x.chans e.ch).length ≤ _
    omega
  · have q := b.hs h hh
    have u := u1 h hh
    exact ⟨q.inn,q.out,q.age,q.ne,key _ u.1 q.ti,key _ u.2 q.to⟩
  · have q := b.cs h hh
    have u := u2 h hh
    exact ⟨q.amt,q.fee,q.ne,key _ u.1 q.ti,key _ u.2 q.to⟩
theorem ev_parts {e : Event} (h : eventOk e = true) : (hK e.kind = true → 1 ≤ e.key ∧ e.key ≤ 1000000) ∧ (hC e.kind = true → 1 ≤ e.ch ∧ e.ch ≤ 99) ∧ (hA e.kind = true → e.kind ≠ 4 → 1 ≤ e.amt) ∧ (e.kind = 4 → e.fee ≤ 1000000) := by
  unfold eventOk at h
  simp only [Bool.and_eq_true] at h
  obtain ⟨⟨⟨⟨⟨⟨⟨h1,h2⟩,h3⟩,h4⟩,h5⟩,h6⟩,h7⟩,h8⟩ := h
  unfold fieldB at h2 h3 h6 h7
  refine ⟨fun q => ?_,fun q => ?_,fun q r => ?_,fun q => ?_⟩
  · rw [if_pos q] at h2;exact inB_true.1 h2
  · rw [if_pos q] at h3;exact inB_true.1 h3
  · rw [if_pos q,if_neg r] at h6;exact (inB_true.1 h6).1
  · rw [if_pos (by rw [q];rfl),if_pos q] at h7;exact (inB_true.1 h7).2
theorem bk_work {x : Book} {e : Event} (h : applyC x e = 0) : BOk (workR x e).b := by
  obtain ⟨h1,h2,h3⟩ := applyC_ok h
  have b := bOk_of h1
  have hbe : (bookOk x && eventOk e) = true := by rw [h1,h2];rfl
  have hw : (workR x e).c = 0 := by rw [← applyC_work hbe h3];exact h
  obtain ⟨_,a0,f0⟩ := evSm_of h2
  have am := evAmt h2
  rw [amtOk_true,amtOk_true] at am
  obtain ⟨p1,p2,p3,p4⟩ := ev_parts h2
  have hn := over_next h3
  by_cases k1 : e.kind = 1
  · rw [← wk1 k1];exact bk_dep b h3 k1 a0
  by_cases k2 : e.kind = 2
  · rw [← wk2 k2] at hw ⊢
    have hs := over_2 hn k2
    rw [h3] at hs
    by_cases q : openC x e = 0
    · exact bk_open b (by simpa using hs.symm) a0 f0 (p2 (by rw [k2];rfl)) q
    · rw [openR_no q] at hw;exact absurd hw q
  by_cases k3 : e.kind = 3
  · rw [← wk3 k3] at hw ⊢
    by_cases q : shutC x e = 0
    · exact bk_shut b f0 k3 h3 q
    · rw [shutR_no q] at hw;exact absurd hw q
  by_cases k4 : e.kind = 4
  · rw [← wk4 k4];exact bk_pri b am.1 ⟨f0,p4 k4⟩
  by_cases k5 : e.kind = 5
  · rw [← wk5 k5] at hw ⊢
    by_cases q : admC x e = 0
    · exact bk_adm b (ev_ne h2 (.inl k5)) (p1 (by rw [k5];rfl)) (p3 (by rw [k5];rfl) (by omega)) q
    · rw [admR_no q] at hw;exact absurd hw q
  by_cases k6 : e.kind = 6 ∨ e.kind = 7
  · rw [← wk6 k6];exact bk_set b
  by_cases k8 : e.kind = 8
  · rw [← wk8 k8]
    have hs := over_8 hn k8
    rw [h3] at hs
    exact bk_tick b (by simpa using hs.symm)
  by_cases k9 : e.kind = 9
  · rw [← wk9 k9] at hw ⊢
    by_cases q : lauC x e = 0
    · exact bk_lau b (ev_ne h2 (.inr k9)) (p1 (by rw [k9];rfl)) (p3 (by rw [k9];rfl) (by omega)) q
    · rw [lauR_no q] at hw;exact absurd hw q
  · have := ev_kind h2
    rw [← wk10 (by omega)]
    exact bk_land b
theorem bookOk_appB {x : Book} {e : Event} (h : applyC x e = 0) : bookOk (appB x e) = true := by
  have b := bk_work h
  by_cases r : (workR x e).l = []
  · rw [(appB_nil h r).1];exact bOk_to b
  · rw [(appB_yes h r).1]
    have hn := over_next (applyC_ok h).2.2
    have h2 := b.next
    rw [workR_next] at h2 ⊢
    exact bOk_to (b.setNext ⟨by omega,by omega⟩)

theorem lessA_trans {a b c : Acc} (h : lessA a b = true) (h2 : lessA b c = true) : lessA a c = true := by
  unfold lessA at *
  simp only [Bool.or_eq_true,Bool.and_eq_true,decide_eq_true_eq,beq_iff_eq] at *
  omega
def lamt (x : Line) : Int := x.amt
theorem insL_asc {x : Line} : ∀ {l : List Line},(l.Pairwise fun a b => lessA a.acc b.acc = true) → Fresh l x.acc.kind x.acc.ch → (insL l x).Pairwise fun a b => lessA a.acc b.acc = true
  | [],_,_ => by unfold insL;exact List.pairwise_singleton _ _
  | y :: l,h,hf => by
    rw [List.pairwise_cons] at h
    unfold insL
    by_cases q : lessA y.acc x.acc = true
    · rw [if_pos q,List.pairwise_cons]
      refine ⟨fun z hz => ?_,insL_asc h.2 fun z hz => hf z (by simp [hz])⟩
      rcases mem_insL hz with r | rfl
      · exact h.1 z r
      · exact q
    · rw [if_neg q]
      have q' := lessA_or (hf y (by simp)) (by simpa using q)
      rw [List.pairwise_cons]
      refine ⟨fun z hz => ?_,List.pairwise_cons.2 h⟩
      rcases List.mem_cons.1 hz with rfl | r
      · exact q'
      · exact lessA_trans q' (h.1 z r)
theorem insL_tot {x : Line} : ∀ (l : List Line),tot lamt (insL l x) = tot lamt l + x.amt
  | [] => by unfold insL;rw [tot_cons,tot_nil];unfold lamt;omega
  | y :: l => by
    unfold insL
    split
    · rw [tot_cons,tot_cons,insL_tot l];omega
    · rw [tot_cons];unfold lamt;omega
def AccV (a : Acc) : Prop := (1 ≤ a.kind ∧ a.kind ≤ 5 ∧ a.ch = 0) ∨ (6 ≤ a.kind ∧ a.kind ≤ 8 ∧ 1 ≤ a.ch ∧ a.ch ≤ 99)
structure LnS (l : List Line) (s : Int) (m : Nat) : Prop where
  asc : l.Pairwise fun a b => lessA a.acc b.acc = true
  acc : ∀ y ∈ l,AccV y.acc
  amt : ∀ y ∈ l,y.amt ≠ 0 ∧ -1125899906842624 ≤ y.amt ∧ y.amt ≤ 1125899906842624
  sum : tot lamt l = s
  len : l.length ≤ m
theorem LnS.nil : LnS [] 0 0 := ⟨List.Pairwise.nil,by simp,by simp,rfl,Nat.le_refl _⟩
theorem LnS.add {l : List Line} {s n k c : Int} {m : Nat} (h : LnS l s m) (hv : AccV ⟨k,c⟩) (hf : Fresh l k c) (hn : -1125899906842624 ≤ n ∧ n ≤ 1125899906842624) : LnS (addL l k c n) (s + n) (m + 1) := by
  by_cases q : n = 0
  · rw [addL_zero q,q,Int.add_zero]
    exact ⟨h.asc,h.acc,h.amt,h.sum,Nat.le_succ_of_le h.len⟩
  · rw [addL_pos q]
    refine ⟨insL_asc h.asc hf,fun y hy => ?_,fun y hy => ?_,?_,?_⟩
    · rcases mem_insL hy with r | rfl
      · exact h.acc y r
      · exact hv
    · rcases mem_insL hy with r | rfl
      · exact h.amt y r
      · exact ⟨q,hn⟩
    · rw [insL_tot,h.sum]
    · rw [insL_length];have := h.len;omega
theorem LnS.eq {l : List Line} {s t : Int} {m : Nat} (h : LnS l s m) (e : s = t) : LnS l t m := e ▸ h
theorem LnS.two {l : List Line} {m : Nat} (h : LnS l 0 m) (hl : l ≠ []) : 2 ≤ l.length := by
  match l,hl with
  | [y],_ =>
    have h1 := h.sum
    rw [tot_cons,tot_nil] at h1
    have h2 := (h.amt y (by simp)).1
    unfold lamt at h1
    omega
  | _ :: _ :: _,_ => simp
theorem There.ok {x : Book} (b : BOk x) {ch : Int} (h : There x.chans ch) : 1 ≤ ch ∧ ch ≤ 99 := by
  obtain ⟨c,hc,rfl⟩ := h
  exact (b.ch c hc).id
theorem av0 {k : Int} (h : 1 ≤ k ∧ k ≤ 5) : AccV ⟨k,0⟩ := .inl ⟨h.1,h.2,rfl⟩
theorem av1 {k ch : Int} (h : 6 ≤ k ∧ k ≤ 8) (hc : 1 ≤ ch ∧ ch ≤ 99) : AccV ⟨k,ch⟩ := .inr ⟨h.1,h.2,hc.1,hc.2⟩
theorem fr2 {l : List Line} {a b c k ch : Int} (h : Fresh l k ch) (hd : a ≠ k ∨ b ≠ ch) : Fresh (addL l a b c) k ch := h.add hd
theorem ln_work {x : Book} {e : Event} (h : applyC x e = 0) : LnS (workR x e).l 0 3 := by
  obtain ⟨h1,h2,h3⟩ := applyC_ok h
  have b := bOk_of h1
  have hbe : (bookOk x && eventOk e) = true := by rw [h1,h2];rfl
  have hw : (workR x e).c = 0 := by rw [← applyC_work hbe h3];exact h
  have am := evAmt h2
  rw [amtOk_true,amtOk_true] at am
  obtain ⟨a0,f0⟩ := am
  obtain ⟨p1,p2,p3,p4⟩ := ev_parts h2
  have hn := over_next h3
  have nil3 : LnS [] 0 3 := ⟨List.Pairwise.nil,by simp,by simp,rfl,by simp⟩
  have up : ∀ {l : List Line} {s : Int},LnS l s 2 → s = 0 → LnS l 0 3 := fun q r => by subst r;exact ⟨q.asc,q.acc,q.amt,q.sum,Nat.le_succ_of_le q.len⟩
  by_cases k1 : e.kind = 1
  · rw [← wk1 k1]
    exact up ((LnS.nil.add (av0 (by omega)) (Fresh.nil _ _) (by omega)).add (av0 (by omega)) (fr2 (Fresh.nil _ _) (.inl (by decide))) (by omega)) (by omega)
  by_cases k2 : e.kind = 2
  · rw [← wk2 k2] at hw ⊢
    by_cases q : openC x e = 0
    · rw [openR_yes q]
      exact up ((LnS.nil.add (av1 (by omega) (p2 (by rw [k2];rfl))) (Fresh.nil _ _) (by omega)).add (av0 (by omega)) (fr2 (Fresh.nil _ _) (.inl (by decide))) (by omega)) (by omega)
    · rw [openR_no q] at hw;exact absurd hw q
  by_cases k3 : e.kind = 3
  · rw [← wk3 k3] at hw ⊢
    by_cases q : shutC x e = 0
    · rw [shutR_yes q]
      unfold shutC at q
      obtain ⟨_,g1⟩ := failC_zero (by decide) q
      simp only [decide_eq_false_iff_not] at g1
      have hl : Amt (chanOr x.chans e.ch).loc := by
        rcases chan_find x.chans e.ch with ⟨_,r⟩ | ⟨i,c,_,r2,r3,_⟩
        · rw [r];exact ⟨Int.le_refl _,by decide⟩
        · rw [r3];exact (b.ch c (mem_of_get r2)).loc
      unfold Amt at hl
      exact (((LnS.nil.add (av0 (by omega)) (Fresh.nil _ _) (by omega)).add (av0 (by omega)) (fr2 (Fresh.nil _ _) (.inl (by decide))) (by omega)).add (av1 (by omega) (p2 (by rw [k3];rfl))) (fr2 (fr2 (Fresh.nil _ _) (.inl (by decide))) (.inl (by decide))) (by omega)).eq (by omega)
    · rw [shutR_no q] at hw;exact absurd hw q
  by_cases k4 : e.kind = 4
  · rw [← wk4 k4]
    unfold priR
    split <;> exact nil3
  by_cases k5 : e.kind = 5
  · rw [← wk5 k5] at hw ⊢
    by_cases q : admC x e = 0
    · rw [admR_yes q]
      have hto : 1 ≤ e.to ∧ e.to ≤ 99 := by
        have h5 := h2
        unfold eventOk at h5
        simp only [Bool.and_eq_true] at h5
        have := h5.1.1.1.1.2
        unfold fieldB at this
        rw [if_pos (by rw [k5];rfl)] at this
        exact inB_true.1 this
      exact up ((LnS.nil.add (av1 (by omega) hto) (Fresh.nil _ _) (by omega)).add (av1 (by omega) hto) (fr2 (Fresh.nil _ _) (.inl (by decide))) (by omega)) (by omega)
    · rw [admR_no q] at hw;exact absurd hw q
  by_cases k6 : e.kind = 6 ∨ e.kind = 7
  · rw [← wk6 k6]
    unfold setR
    split
    · rename_i y hy
      have q := b.hs y (List.mem_of_find?_eq_some hy)
      have q1 := q.inn
      have q2 := q.out
      unfold Amt at q1
      have ti := There.ok b q.ti
      have to := There.ok b q.to
      unfold setY
      split
      · exact (((LnS.nil.add (av0 (by omega)) (Fresh.nil _ _) (by omega)).add (av1 (by omega) ti) (fr2 (Fresh.nil _ _) (.inl (by decide))) (by omega)).add (av1 (by omega) to) (fr2 (fr2 (Fresh.nil _ _) (.inl (by decide))) (.inl (by decide))) (by omega)).eq (by omega)
      · exact up ((LnS.nil.add (av1 (by omega) to) (Fresh.nil _ _) (by omega)).add (av1 (by omega) to) (fr2 (Fresh.nil _ _) (.inl (by decide))) (by omega)) (by omega)
    · exact nil3
  by_cases k8 : e.kind = 8
  · rw [← wk8 k8];exact nil3
  by_cases k9 : e.kind = 9
  · rw [← wk9 k9] at hw ⊢
    by_cases q : lauC x e = 0
    · rw [lauR_yes q]
      have hs : A50 (addV e.amt e.fee) := addV_A50 _ _
      unfold A50 at hs
      have hch := p2 (by rw [k9];rfl)
      exact up ((LnS.nil.add (av1 (by omega) hch) (Fresh.nil _ _) (by omega)).add (av1 (by omega) hch) (fr2 (Fresh.nil _ _) (.inl (by decide))) (by omega)) (by omega)
    · rw [lauR_no q] at hw;exact absurd hw q
  · have := ev_kind h2
    rw [← wk10 (by omega)]
    unfold landR
    split
    · rename_i y hy
      have hm := List.mem_of_find?_eq_some hy
      have q := b.cs y hm
      have q1 := circle_fits h1 y hm
      have ti := There.ok b q.ti
      have to := There.ok b q.to
      unfold landY
      split
      · exact (((LnS.nil.add (av0 (by omega)) (Fresh.nil _ _) (by omega)).add (av1 (by omega) to) (fr2 (Fresh.nil _ _) (.inl (by decide))) (by omega)).add (av1 (by omega) ti) (fr2 (fr2 (Fresh.nil _ _) (.inl (by decide))) (.inl (by decide))) (by omega)).eq (by omega)
      · exact up ((LnS.nil.add (av1 (by omega) ti) (Fresh.nil _ _) (by omega)).add (av1 (by omega) ti) (fr2 (Fresh.nil _ _) (.inl (by decide))) (by omega)) (by omega)
    · exact nil3
end Go.Proofs.YtogkbcmfoalpiaaGreat

