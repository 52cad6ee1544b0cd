/- Texts of the proof of FnForward, joined: ES3, ES3b, ES4. -/
import Derived.Test.YtogkbcmfoalpiaaGreatJForward8
namespace Go.Proofs.YtogkbcmfoalpiaaGreat
open Go.RowKit
set_option maxHeartbeats 16000000
set_option maxRecDepth 100000
set_option linter.unusedSimpArgs false
set_option linter.unusedVariables false
theorem chanAt_ids{l l':List Chan}{ch:Int}(h:l.map (·.id)=l'.map (·.id)):chanAt l ch=chanAt l' ch:=by
 have e:∀l:List Chan,l.findIdx? (fun c=>c.id==ch)=(l.map (·.id)).findIdx? (fun k=>k==ch):=fun l=>by rw[List.findIdx?_map];rfl
 unfold chanAt
 rw[e,e,h]
theorem chanAt_set{l:List Chan}{i:Nat}{c c':Chan}{ch:Int}(hc:l[i]? = some c)(h:c'.id=c.id):chanAt (l.set i c') ch=chanAt l ch:=by
 refine chanAt_ids ?_
 obtain⟨hi,rfl⟩:=List.getElem?_eq_some_iff.1 hc
 rw[List.map_set,h]
 apply List.ext_getElem?
 intro j
 rw[List.getElem?_set]
 split
 ·rename_i e;subst e;simp[hi]
 ·rfl
theorem miss_two{l:List Chan}{a b c:Int}(hab:a≠b):missC l b (missC l a c)=failC (!two l a b) c 6:=by
 have h1:=chan_find l a
 have h2:=chan_find l b
 unfold missC two failC
 rcases h1 with⟨q1,_⟩|⟨i,_,q1,_⟩<;>rcases h2 with⟨q2,_⟩|⟨j,_,q2,_⟩<;>rw[q1,q2]<;>by_cases hc:c=0<;>simp[hab,hc]<;>omega
theorem admC_one{x:Book}{e:Event}(h:admC1 x e≠0):admC x e=admC1 x e:=if_neg h
theorem admC_two{x:Book}{e:Event}(h:admC1 x e=0):admC x e=failC (decide (admRoom x e=0)) (admC1 x e) 13:=if_pos h
theorem sadm_e(g:Value)(x:Book)(e:Event)(fi:BookFi x)(es:EvSm e)(hne:e.ch≠e.to):GC Tryz.prog 57 [.ptr 0 0 0,evV e] (sIn g x [] 0) (.tup []) (sOut g (admR x e)):=by
 have sm:=fi.sm
 have hm:x.chans.length≤1000000000:=by have:=sm.lc;omega
 have hlh:=sm.lh
 have hli:=sm.li
 have hmh1:x.htlcs.length≤1000:=by omega
 have hmc1:x.circles.length≤1000:=by omega
 have hLh:decide ((x.htlcs.length:Int)=60)=decide ((60:Int)≤(x.htlcs.length:Int)):=by apply decide_eq_decide.2;omega
 have hLi:decide ((x.circles.length:Int)=20)=decide ((20:Int)≤(x.circles.length:Int)):=by apply decide_eq_decide.2;omega

 refine GC.intro (rs:=[]) Tryz.func57 rfl Tryz.ntmps57 (Nat.le_of_ble_eq_true rfl) trivial ?_
 intro L O w0
 refine sL<|lst (zX 2003 rfl) Z<|nG<|aS<|aS<|aF [9,22,33]<|pq 0 (qmP rfl)<|pq 1 (qmP rfl)<|pq 2 (qc rfl)<|pq 3 (qf 0 ty.F91_0 rfl)<|sq 4 (roX (.agg [vI _ _,vI _ _,vI _ _,.own _,.own _,.own _]) ty.kd27 rfl)<|pq 6 (qf 1 ty.F29_1 rfl)<|sq 7 (roI ty.kd3 rfl)<|vst 5 rfl (St.lendO 2016 rfl (by intro s hs;cases hs;decide) rfl Tryz.func110 rfl rfl (skeys_e x hmh1 hmc1) flat_rowsOf rfl) (.inr rfl)<|vst 8 rfl (zL Tryz.func109 (shasInt_e (keyL x) _ (by unfold keyL;simp;omega)) rfl) (.inr rfl)<|fsB 19 (knownB x e.key) rfl (any_keys x e.key) ?_
 refine vst 9 rfl (z5a Tryz.func51 (scode_e _ _ _ _ _ _ _ _ _ _ _ _ _ _ _ _ _ _ _ ) (⟨stays.box (Eq.refl 8),trivial⟩) rfl rfl) (.inl rfl)<|vq 10 (rmB rfl) ?_
 refine AF.bool (t:=21) rfl ?_ ?_
 ·intro h1
  refine pno 11 Z<|pno 12 Z<|pno 13 Z<|pno 14 Z<|pno 15 Z<|pno 16 Z<|pno 17 Z<|vno 18 Z<|vno 19 Z<|vno 20 Z<|vno 21 Z<|vno 22 Z<|vq 23 (rkT Z)<|vq 24 (rmT Z)<|pno 25 Z<|vno 26 Z<|vno 27 Z<|vno 28 Z<|vno 29 Z<|vno 30 Z<|vno 31 Z<|vno 32 Z<|vno 33 Z<|vq 34 (rkT Z)<|fD<|gT<|aY Z<|aR<|rT ?_
  have hcd:admC0 x e=failC (knownB x e.key) 0 9:=by
   have h:=h1
   unfold admC0
   rw[miss_two hne]
   simp only[zb1,zb2,zb3,zb4]at h
   rw[failC_old (c:=failC (!two x.chans e.ch e.to) (failC (knownB x e.key) 0 9) 6) (failC_keep h),failC_old h]
  have hn:admC0 x e≠0:=by
   have h:=h1
   simp only[zb1,zb2,zb3,zb4]at h
   rw[hcd];exact h
  have hcd2:admC x e=admC0 x e:=by
   rw[admC_one (failC_keep (failC_keep (failC_keep hn)))]
   unfold admC1
   rw[failC_old (failC_keep (failC_keep hn)),failC_old (failC_keep hn),failC_old hn]
  rw[admR_no (by rw[hcd2];exact hn),hcd2,hcd]
  refine end_ret ?_ ⟨rfl,rfl,rfl,rfl,rfl,trivial⟩
  rfl
 ·intro h1
  refine pq 11 (qmP Z)<|pq 12 (qmP Z)<|pq 13 (qc Z)<|pq 14 (qf 0 ty.F91_0 Z)<|sq 15 (roX (.agg [vI _ _,vI _ _,vI _ _,.own _,.own _,.own _]) ty.kd27 Z)<|pq 16 (qf 2 ty.F29_2 Z)<|sq 17 (roI ty.kd3 Z)<|vq 18 (rf 3 ty.F29_3 Z)<|vq 19 (roI ty.kd3 Z)<|vst 20 Z (zL Tryz.func111 (stwo_e x _ _ hm) Z) (.inr Z)<|vq 21 (ruB Z) ?_
  refine vst 22 rfl (z5a Tryz.func51 (scode_e _ _ _ _ _ _ _ _ _ _ _ _ _ _ _ _ _ _ _ ) (⟨stays.box (Eq.refl 8),trivial⟩) rfl rfl) (.inl rfl)<|vq 23 (rkB rfl)<|vq 24 (rmB rfl) ?_
  refine AF.bool (t:=35) rfl ?_ ?_
  ·intro h2
   refine pno 25 Z<|vno 26 Z<|vno 27 Z<|vno 28 Z<|vno 29 Z<|vno 30 Z<|vno 31 Z<|vno 32 Z<|vno 33 Z<|vq 34 (rkT Z)<|fD<|gT<|aT [0,3,45] [0,1,2,3,4,2003,2016] ?_
   refine aY Z<|aR<|rT ?_
   have hcd:admC0 x e=failC (!two x.chans e.ch e.to) (failC (knownB x e.key) 0 9) 6:=by
    have h:=h2
    unfold admC0
    rw[miss_two hne]
    simp only[zb1,zb2,zb3,zb4]at h
    rw[failC_old h]
   have hn:admC0 x e≠0:=by
    have h:=h2
    simp only[zb1,zb2,zb3,zb4]at h
    rw[hcd];exact h
   have hcd2:admC x e=admC0 x e:=by
    rw[admC_one (failC_keep (failC_keep (failC_keep hn)))]
    unfold admC1
    rw[failC_old (failC_keep (failC_keep hn)),failC_old (failC_keep hn),failC_old hn]
   rw[admR_no (by rw[hcd2];exact hn),hcd2,hcd]
   refine end_ret ?_ ⟨rfl,rfl,rfl,rfl,rfl,trivial⟩
   rfl
  ·intro h2
   refine pq 25 (qmP rfl)<|vq 26 (rmP rfl)<|vq 27 (rc rfl)<|vq 28 (rf 0 ty.F91_0 rfl)<|vq 29 (rf 4 ty.F27_4 rfl)<|vq 30 (roO ty.kd24 rfl)<|vq 31 (rnI ty.sl24 rfl)<|vq 32 (rbB rfl)<|fsB 43 (decide ((60:Int)≤(x.htlcs.length:Int))) rfl (by rw[length_rowsOf];exact hLh) ?_
   refine vst 33 rfl (z5a Tryz.func51 (scode_e _ _ _ _ _ _ _ _ _ _ _ _ _ _ _ _ _ _ _ ) (⟨stays.box (Eq.refl 8),trivial⟩) rfl rfl) (.inl rfl)<|vq 34 (rkB rfl)<|fD<|gT ?_
   refine AW.cond rfl ?_ ?_
   ·intro h3
    refine aR<|rT ?_
    have hcd:admC0 x e=failC (decide ((60:Int)≤(x.htlcs.length:Int))) (failC (!two x.chans e.ch e.to) (failC (knownB x e.key) 0 9) 6) 14:=by
     unfold admC0
     rw[miss_two hne]
    have hn:admC0 x e≠0:=by
     have h:=h3
     simp only[zb1,zb2,zb3,zb4]at h
     rw[hcd];exact h
    have hcd2:admC x e=admC0 x e:=by
     rw[admC_one (failC_keep (failC_keep (failC_keep hn)))]
     unfold admC1
     rw[failC_old (failC_keep (failC_keep hn)),failC_old (failC_keep hn),failC_old hn]
    rw[admR_no (by rw[hcd2];exact hn),hcd2,hcd]
    refine end_ret ?_ ⟨rfl,rfl,rfl,rfl,rfl,trivial⟩
    rfl
   ·intro h3
    refine aK<|gT<|aS ?_
    have hz0:admC0 x e=0:=by
     have h:=h3
     unfold admC0
     rw[miss_two hne]
     simp only[zb1,zb2,zb3,zb4]at h
     exact h
    have htw:two x.chans e.ch e.to=true:=by
     rcases q:two x.chans e.ch e.to with _|_
     ·exfalso
      have h:=hz0
      unfold admC0 at h
      rw[miss_two hne,q]at h
      exact failC_keep (failC_set (by decide)) h
     ·rfl
    obtain⟨hne2,hca,hda⟩:=two_parts (show two x.chans e.ch e.to=true by first|(simpa using htw))
    obtain⟨i,c,hi,hc,ho,hid⟩:=chan_there hca
    obtain⟨j,d,hj,hd,hp,hjd⟩:=chan_there hda
    have hcm:=sm.chans c (mem_of_get hc)
    have hdm:=sm.chans d (mem_of_get hd)
    have hij:i≠j:=idx_ne hc hd (by rw[hid,hjd];exact hne)
    refine AW.obj 0 (sBox g x.tick x.next x.wallet 0) (Eq.trans (b:=sBox g x.tick x.next x.wallet _) rfl (congrArg (sBox g x.tick x.next x.wallet) (by have h:=hz0;unfold admC0 at h;rw[miss_two hne]at h;exact h))) ?_
    have hA:admC1 x e=failC (decide (d.loc<e.amt)) (failC (decide (c.remote<admSum x e)) (failC (admBad x e) 0 10) 11) 12:=by unfold admC1;rw[ho,hp,hz0]
    refine aF [15]<|pq 0 (qmP Z)<|pq 1 (qc Z)<|pq 2 (qf 0 ty.F91_0 Z)<|pq 3 (qf 3 ty.F27_3 Z)<|sq 4 (roO ty.kd23 Z)<|pq 5 (qmP Z)<|pq 6 (qc Z)<|pq 7 (qf 0 ty.F91_0 Z)<|sq 8 (roX (.agg [vI _ _,vI _ _,vI _ _,.own _,.own _,.own _]) ty.kd27 Z)<|pq 9 (qf 2 ty.F29_2 Z)<|sq 10 (roI ty.kd3 Z) ?_
    refine AF.two (i:=11) (j:=14) (by kernel_rfl) ?_ ?_
    ·refine v1 11 rfl (zL Tryz.func55 (sAt_e x _ hm) rfl) (.inr rfl)<|sq 12 (rd (x:=.ptr 1 _ 0) (rd_iaddr_own (i:=i) rfl ty.el23 rfl rfl rfl ?hn1 (by rw[length_rowsOf];exact(List.getElem?_eq_some_iff.1 hc).1)) rfl) ?_
     case hn1=>rw[←chanAt_atI];exact hi
     refine sq 13 (rd (x:=.agg [vI _ _,vI _ _,vI _ _,vI _ _,vI _ _,vI _ _,vI _ _]) (rd_load_arr Z ty.kd40 Z Z Z (rows_some hc) Z) Z)<|vst 14 Z (zA 2004 ty.ze40 Z) (.inr Z)<|vst 15 Z (zB 2004 ty.co40 ty.inf40 Z) (.inl Z)<|fD<|gT<|aS<|aF [15]<|pq 0 (qmP Z)<|pq 1 (qc Z)<|pq 2 (qf 0 ty.F91_0 Z)<|pq 3 (qf 3 ty.F27_3 Z)<|sq 4 (roO ty.kd23 Z)<|pq 5 (qmP Z)<|pq 6 (qc Z)<|pq 7 (qf 0 ty.F91_0 Z)<|sq 8 (roX (.agg [vI _ _,vI _ _,vI _ _,.own _,.own _,.own _]) ty.kd27 Z)<|pq 9 (qf 3 ty.F29_3 Z)<|sq 10 (roI ty.kd3 Z) ?_
     refine AF.two (i:=11) (j:=14) (by kernel_rfl) ?_ ?_
     ·refine v1 11 rfl (zL Tryz.func55 (sAt_e x _ hm) rfl) (.inr rfl)<|sq 12 (rd (x:=.ptr 1 _ 0) (rd_iaddr_own (i:=j) rfl ty.el23 rfl rfl rfl ?hn2 (by rw[length_rowsOf];exact(List.getElem?_eq_some_iff.1 hd).1)) rfl) ?_
      case hn2=>rw[←chanAt_atI];exact hj
      refine sq 13 (rd (x:=.agg [vI _ _,vI _ _,vI _ _,vI _ _,vI _ _,vI _ _,vI _ _]) (rd_load_arr Z ty.kd40 Z Z Z (rows_some hd) Z) Z)<|vst 14 Z (zA 2005 ty.ze40 Z) (.inr Z)<|vst 15 Z (zB 2005 ty.co40 ty.inf40 Z) (.inl Z)<|fD<|gT<|aT [0,3,4,5] [0,1,2,3,4,2003,2004,2005,2016] ?_
      refine sL<|lf 4 ty.F40_4 Z<|loI ty.kd3 Z<|lf 5 ty.F40_5 Z<|loI ty.kd3 Z<|lf 4 ty.F29_4 Z<|loI ty.kd3 Z<|lst (zL Tryz.func112 (sfeeUp_e _ _ _) Z) Z<|lmX (.tup [vI _ _,vB _]) Z<|lxI Z<|lxB Z<|laI Z<|laB Z<|nA<|lf 4 ty.F29_4 Z<|loI ty.kd3 Z<|lmI Z<|lst (zL Tryz.func52 (saddAmt_e _ _) Z) Z<|lT [0,3,4,5,7,88] [0,1,2,3,4,2003,2004,2005,2016] ?_
      refine lmX (.tup [vI _ _,vB _]) Z<|lxI Z<|lsN 89 (admSum x e) rfl (by unfold admSum;rw[hp])<|lxB Z<|laI Z<|laB Z<|nG<|aS<|aF []<|pq 0 (qmP rfl)<|pq 1 (qc rfl)<|pq 2 (qf 0 ty.F91_0 rfl)<|sq 3 (roX (.agg [vI _ _,vI _ _,vI _ _,.own _,.own _,.own _]) ty.kd27 rfl)<|sq 4 (roX (.agg [vI _ _,vI _ _,vI _ _,vI _ _,vI _ _,vI _ _,vI _ _]) ty.kd40 rfl)<|sq 5 (roX (.agg [vI _ _,vI _ _,vI _ _,vI _ _,vI _ _,vI _ _,vI _ _]) ty.kd40 rfl)<|pq 6 (qf 4 ty.F29_4 rfl)<|sq 7 (roI ty.kd3 rfl)<|vq 8 (rf 6 ty.F29_6 rfl)<|vq 9 (roB ty.kd4 rfl)<|vst 10 rfl (zL Tryz.func113 (sroom_e x c d _ _ sm.hs) rfl) (.inr rfl)<|fsN 101 (admRoom x e) rfl (by unfold admRoom;rw[ho,hp,hjd])<|vq 11 (raI rfl)<|fD<|gT ?_
      refine aJ [0,3,8,10] [1,2,3,4,2003,2004,2005,2016] (D:=Unit) (fun jd=>[]) (fun jd=>[(0,sBox g x.tick x.next x.wallet 0)]) (fun jd=>admC x e=0) ?_ ?_
      ·refine sL<|lmP Z<|lmB Z<|luB Z<|lmB Z ?_
       refine lor rfl rfl rfl ?_
       refine lsB 108 (admBad x e) rfl (by unfold admBad;rw[hp]) ?_
       refine lst (z5a Tryz.func51 (scode_e _ _ _ _ _ _ _ _ _ _ _ _ _ _ _ _ _ _ _ ) (⟨stays.box (Eq.refl 8),trivial⟩) rfl rfl) Z<|lmB rfl ?_
       refine AL.bool (t:=110) rfl ?_ ?_
       ·intro h4
        refine lno Z<|lno Z<|lno Z<|lno Z<|lno Z<|lno Z<|lkT Z<|lmT Z<|lno Z<|lno Z<|lno Z<|lno Z<|lno Z<|lno Z<|lno Z<|lkT Z<|lmT Z<|lno Z<|lno Z<|lno Z<|lno Z<|lkT Z<|nG<|aY Z<|aR<|rT ?_
        have hcd:admC1 x e=failC (admBad x e) 0 10:=by
         have h:=h4
         simp only[zb1,zb2,zb3,zb4]at h
         rw[hA]
         rw[failC_old (failC_keep h),failC_old h]
        have hn:admC1 x e≠0:=by
         have h:=h4
         simp only[zb1,zb2,zb3,zb4]at h
         rw[hcd];exact h
        rw[admR_no (by rw[admC_one hn];exact hn),admC_one hn,hcd]
        refine end_ret ?_ ⟨rfl,rfl,rfl,rfl,rfl,trivial⟩
        rfl
       ·intro h4
        refine lmP Z<|lf 3 ty.F40_3 Z<|loI ty.kd3 Z<|lmI Z<|lbB Z ?_
        refine lst (z5a Tryz.func51 (scode_e _ _ _ _ _ _ _ _ _ _ _ _ _ _ _ _ _ _ _ ) (⟨stays.box (Eq.refl 8),trivial⟩) rfl rfl) Z<|lkB Z<|lmB rfl ?_
        refine AL.bool (t:=118) rfl ?_ ?_
        ·intro h5
         refine lno Z<|lno Z<|lno Z<|lno Z<|lno Z<|lno Z<|lno Z<|lkT Z<|lmT Z<|lno Z<|lno Z<|lno Z<|lno Z<|lkT Z<|nG<|aT [0,3,8,10,132] [0,1,2,3,4,2003,2004,2005,2016] ?_
         refine aY Z<|aR<|rT ?_
         have hcd:admC1 x e=failC (decide (c.remote<admSum x e)) (failC (admBad x e) 0 10) 11:=by
          have h:=h5
          simp only[zb1,zb2,zb3,zb4]at h
          rw[hA]
          rw[failC_old h]
         have hn:admC1 x e≠0:=by
          have h:=h5
          simp only[zb1,zb2,zb3,zb4]at h
          rw[hcd];exact h
         rw[admR_no (by rw[admC_one hn];exact hn),admC_one hn,hcd]
         refine end_ret ?_ ⟨rfl,rfl,rfl,rfl,rfl,trivial⟩
         rfl
        ·intro h5
         refine lmP Z<|lf 2 ty.F40_2 Z<|loI ty.kd3 Z<|lf 4 ty.F29_4 Z<|loI ty.kd3 Z<|lbB Z ?_
         refine lst (z5a Tryz.func51 (scode_e _ _ _ _ _ _ _ _ _ _ _ _ _ _ _ _ _ _ _ ) (⟨stays.box (Eq.refl 8),trivial⟩) rfl rfl) Z<|lkB Z<|lmB rfl ?_
         refine AL.bool (t:=127) rfl ?_ ?_
         ·intro h6
          refine lno Z<|lno Z<|lno Z<|lno Z<|lkT Z<|nG<|aY Z<|aR<|rT ?_
          have hcd:admC1 x e=failC (decide (d.loc<e.amt)) (failC (decide (c.remote<admSum x e)) (failC (admBad x e) 0 10) 11) 12:=by
           have h:=h6
           simp only[zb1,zb2,zb3,zb4]at h
           rw[hA]
           skip
          have hn:admC1 x e≠0:=by
           have h:=h6
           simp only[zb1,zb2,zb3,zb4]at h
           rw[hcd];exact h
          rw[admR_no (by rw[admC_one hn];exact hn),admC_one hn,hcd]
          refine end_ret ?_ ⟨rfl,rfl,rfl,rfl,rfl,trivial⟩
          rfl
         ·intro h6
          refine lmP Z<|lmI Z<|lbB Z ?_
          refine lst (z5a Tryz.func51 (scode_e _ _ _ _ _ _ _ _ _ _ _ _ _ _ _ _ _ _ _ ) (⟨stays.box (Eq.refl 8),trivial⟩) rfl rfl) Z<|lkB Z<|nG ?_
          refine AW.cond rfl ?_ ?_
          ·intro h7
           refine aR<|rT ?_
           have hz1:admC1 x e=0:=by
            rw[hA]
            have h:=h6
            simp only[zb1,zb2,zb3,zb4]at h
            exact h
           have hcd:admC x e=failC (decide (admRoom x e=0)) (failC (decide (d.loc<e.amt)) (failC (decide (c.remote<admSum x e)) (failC (admBad x e) 0 10) 11) 12) 13:=by rw[admC_two hz1,hA]
           have hn:admC x e≠0:=by
            have h:=h7
            simp only[zb1,zb2,zb3,zb4]at h
            rw[hcd];exact h
           rw[admR_no hn,hcd]
           refine end_ret ?_ ⟨rfl,rfl,rfl,rfl,rfl,trivial⟩
           rfl
          ·intro h7
           refine aK<|gT ?_
           have hz1:admC1 x e=0:=by
            rw[hA]
            have h:=h6
            simp only[zb1,zb2,zb3,zb4]at h
            exact h
           have hy0:admC x e=0:=by
            have h:=h7
            simp only[zb1,zb2,zb3,zb4]at h
            rw[admC_two hz1,hA]
            exact h
           refine⟨(),hy0,trivial,⟨(Eq.trans (b:=sBox g x.tick x.next x.wallet _) rfl (congrArg (sBox g x.tick x.next x.wallet) (by rw[admC_two hz1,hA]at hy0;exact hy0))),trivial⟩,rfl,rfl⟩
      ·intro jd hy0
       refine aS<|aF [19,23]<|pq 0 (qmP Z)<|pq 1 (qmP Z)<|pq 2 (qc Z)<|pq 3 (qf 0 ty.F91_0 Z)<|pq 4 (qf 4 ty.F27_4 Z)<|sq 5 (roO ty.kd24 Z)<|pq 6 (qf 1 ty.F29_1 Z)<|sq 7 (roI ty.kd3 Z)<|pq 8 (qf 2 ty.F29_2 Z)<|sq 9 (roI ty.kd3 Z)<|pq 10 (qf 3 ty.F29_3 Z)<|sq 11 (roI ty.kd3 Z)<|pq 12 (qmX (vI _ _) Z)<|pq 13 (qf 4 ty.F29_4 Z)<|sq 14 (roI ty.kd3 Z)<|vq 15 (rmI Z)<|vq 16 (rbB Z)<|vq 17 (rd (x:=.agg [vI _ _,vI _ _,vI _ _,vI _ _,vI _ _,vB _,vI _ _]) (rd_build Z ty.sa68 Z Z Z) Z) ?_
       refine vst 18 rfl (zS 2151 (rowsOf encHtlc [⟨e.key,e.ch,e.to,admSum x e,e.amt,decide (admRoom x e=2),0⟩]) ty.el24 ty.ze68 rfl) (.inr rfl)<|vst 19 rfl (zP 2 ty.el24 ty.ze68 ty.by68 rfl (Src.own rfl rfl) (by have:=sm.lh;simp[rowsOf];omega)) (.inl rfl)<|vq 20 (rc rfl)<|vq 21 (rf 0 ty.F91_0 rfl)<|vq 22 (rf 4 ty.F27_4 rfl)<|vst 23 rfl (zB 0 ty.co24 ty.inf24 rfl) (.inl rfl)<|fD<|gT ?_
       refine AW.obj 2 (hAr (x.htlcs++[⟨e.key,e.ch,e.to,admSum x e,e.amt,decide (admRoom x e=2),0⟩])) ((congrArg (AO.arr 68 7) (rowsOf_app encHtlc _ [_]).symm)) ?_
       refine sL<|lmP Z<|lf 2 ty.F29_2 Z<|loI ty.kd3 Z<|lmI Z<|lq (rd (x:=vI _ _) (rd_un rfl rfl (fits_i64 (by have h2:A50 (admSum x e):=addV_A50 _ _;unfold A50 at *;unfold i64;omega))) rfl) ?_
       refine lst (z5a Tryz.func114 (smove_e _ ({ x with htlcs:=x.htlcs++[⟨e.key,e.ch,e.to,admSum x e,e.amt,decide (admRoom x e=2),0⟩] }) _ _ _ _ _ (hm) i c (hi) (hc) (by have h1:=hcm.1;unfold A50 at h1;unfold i64;omega) (by have h1:=hcm.2.1;have h2:A50 (admSum x e):=addV_A50 _ _;unfold A50 at *;unfold i64;omega)) (⟨stays.box (Eq.refl 8),trivial⟩) rfl rfl) Z<|lT [0,3] [0,1,2,3,4,2003,2004,2005,2016,2151] ?_
       refine nA<|lmP Z<|lf 3 ty.F29_3 Z<|loI ty.kd3 Z<|lf 4 ty.F29_4 Z<|loI ty.kd3 Z<|lq (rd (x:=vI _ _) (rd_un rfl rfl (fits_i64 (by have h2:=es.amt;unfold A50 at *;unfold i64;omega))) rfl) ?_
       refine lst (z5a Tryz.func114 (smove_e _ ({ x with htlcs:=x.htlcs++[⟨e.key,e.ch,e.to,admSum x e,e.amt,decide (admRoom x e=2),0⟩],chans:=x.chans.set i { c with loc:=c.loc+0,remote:=c.remote+-admSum x e } }) _ _ _ _ _ ((by rw[List.length_set];exact hm)) j d ((chanAt_set (c':={ c with loc:=c.loc+0,remote:=c.remote+-admSum x e }) hc rfl).trans hj) (set_get hd hij _) (by have h1:=hdm.1;have h2:=es.amt;unfold A50 at *;unfold i64;omega) (by have h1:=hdm.2.1;unfold A50 at h1;unfold i64;omega)) (⟨stays.box (Eq.refl 8),trivial⟩) rfl rfl) Z<|nG ?_
       refine AW.obj 1 (AO.arr 40 7 (rowsOf encChan (updC (updC x.chans e.ch fun c=>{ c with remote:=c.remote-admSum x e }) e.to fun c=>{ c with loc:=c.loc-e.amt }))) (congrArg (fun l=>AO.arr 40 7 (rowsOf encChan l)) ((by simp only[Int.add_zero,Int.sub_eq_add_neg]:_=((x.chans.set i { c with remote:=c.remote-admSum x e }).set j { d with loc:=d.loc-e.amt })).trans (set_two' fi.ids hc hd hid hjd hne (fun c=>{ c with remote:=c.remote-admSum x e }) (fun d=>{ d with loc:=d.loc-e.amt }) (fun _=>rfl)))) ?_
       refine sL<|lmP Z<|lf 3 ty.F29_3 Z<|loI ty.kd3 Z<|lf 4 ty.F29_4 Z<|loI ty.kd3 Z<|lq (rd (x:=vI _ _) (rd_un rfl rfl (fits_i64 (by have h2:=es.amt;unfold A50 at *;unfold i64;omega))) rfl) ?_
       refine lst (z5a Tryz.func53 (sline_e _ _ _ _ _ _ _ _ _ _ _ _ _ _ ([]) 0 (LG.nil) (by decide) _ _ _ (Fresh.nil _ _) (rangeA_neg es.amt)) (⟨stays.box (Eq.refl 8),trivial⟩) rfl rfl) Z<|lT [0,3] [0,1,2,3,4,2003,2004,2005,2016,2151] ?_
       refine nG<|aL<|lmP Z<|lf 3 ty.F29_3 Z<|loI ty.kd3 Z<|lf 4 ty.F29_4 Z<|loI ty.kd3 Z ?_
       refine lst (z5a Tryz.func53 (sline_e _ _ _ _ _ _ _ _ _ _ _ _ _ _ (addL [] 6 e.to (-e.amt)) 1 (LG.nil.add (rangeA_neg es.amt)) (by decide) _ _ _ ((Fresh.nil _ _).add (.inl (by decide))) (rangeA_of es.amt)) (⟨stays.box (Eq.refl 8),trivial⟩) rfl rfl) Z<|lN ?_
       rw[admR_yes hy0]
       unfold admY
       refine end_go ?_ ⟨rfl,rfl,rfl,rfl,rfl,trivial⟩
       rfl
     ·refine v1 14 rfl (zA 2005 ty.ze40 rfl) (.inr rfl)<|vst 11 rfl (zL Tryz.func55 (sAt_e x _ hm) rfl) (.inr rfl)<|vq 12 (rd (x:=.ptr 1 _ 0) (rd_iaddr_own (i:=j) rfl ty.el23 rfl rfl rfl ?hn3 (by rw[length_rowsOf];exact(List.getElem?_eq_some_iff.1 hd).1)) rfl) ?_
      case hn3=>rw[←chanAt_atI];exact hj
      refine vq 13 (rd (x:=.agg [vI _ _,vI _ _,vI _ _,vI _ _,vI _ _,vI _ _,vI _ _]) (rd_load_arr Z ty.kd40 Z Z Z (rows_some hd) Z) Z)<|vst 15 Z (zB 2005 ty.co40 ty.inf40 Z) (.inl Z)<|fD<|gA<|lf 4 ty.F40_4 Z<|loI ty.kd3 Z<|lf 5 ty.F40_5 Z<|loI ty.kd3 Z<|lf 4 ty.F29_4 Z<|loI ty.kd3 Z<|lst (zL Tryz.func112 (sfeeUp_e _ _ _) Z) Z<|lT [0,3,4,5,81] [0,1,2,3,4,2003,2004,2005,2016] ?_
      refine lmX (.tup [vI _ _,vB _]) Z<|lxI Z<|lxB Z<|laI Z<|laB Z<|nA<|lf 4 ty.F29_4 Z<|loI ty.kd3 Z<|lmI Z<|lst (zL Tryz.func52 (saddAmt_e _ _) rfl) Z<|lmX (.tup [vI _ _,vB _]) Z<|lxI Z<|lsN 89 (admSum x e) rfl (by unfold admSum;rw[hp])<|lxB Z<|laI Z<|laB Z<|nG<|aS<|aF []<|pq 0 (qmP rfl)<|pq 1 (qc rfl)<|pq 2 (qf 0 ty.F91_0 rfl)<|sq 3 (roX (.agg [vI _ _,vI _ _,vI _ _,.own _,.own _,.own _]) ty.kd27 rfl)<|sq 4 (roX (.agg [vI _ _,vI _ _,vI _ _,vI _ _,vI _ _,vI _ _,vI _ _]) ty.kd40 rfl)<|sq 5 (roX (.agg [vI _ _,vI _ _,vI _ _,vI _ _,vI _ _,vI _ _,vI _ _]) ty.kd40 rfl)<|pq 6 (qf 4 ty.F29_4 rfl) ?_
      refine sq 7 (roI ty.kd3 rfl)<|vq 8 (rf 6 ty.F29_6 rfl)<|vq 9 (roB ty.kd4 rfl)<|vst 10 rfl (zL Tryz.func113 (sroom_e x c d _ _ sm.hs) rfl) (.inr rfl)<|fsN 101 (admRoom x e) rfl (by unfold admRoom;rw[ho,hp,hjd])<|vq 11 (raI rfl)<|fD<|gT ?_
      refine aJ [0,3,8,10] [1,2,3,4,2003,2004,2005,2016] (D:=Unit) (fun jd=>[]) (fun jd=>[(0,sBox g x.tick x.next x.wallet 0)]) (fun jd=>admC x e=0) ?_ ?_
      ·refine sL<|lmP Z<|lmB Z<|luB Z<|lmB Z ?_
       refine lor rfl rfl rfl ?_
       refine lsB 108 (admBad x e) rfl (by unfold admBad;rw[hp]) ?_
       refine lst (z5a Tryz.func51 (scode_e _ _ _ _ _ _ _ _ _ _ _ _ _ _ _ _ _ _ _ ) (⟨stays.box (Eq.refl 8),trivial⟩) rfl rfl) Z<|lmB rfl ?_
       refine AL.bool (t:=110) rfl ?_ ?_
       ·intro h8
        refine lno Z<|lno Z<|lno Z<|lno Z<|lno Z<|lno Z<|lkT Z<|lmT Z<|lno Z<|lno Z<|lno Z<|lno Z<|lno Z<|lno Z<|lno Z<|lkT Z<|lmT Z<|lno Z<|lno Z<|lno Z<|lno Z<|lkT Z<|nG<|aT [0,3,8,10,132] [0,1,2,3,4,2003,2004,2005,2016] ?_
        refine aY Z<|aR<|rT ?_
        have hcd:admC1 x e=failC (admBad x e) 0 10:=by
         have h:=h8
         simp only[zb1,zb2,zb3,zb4]at h
         rw[hA]
         rw[failC_old (failC_keep h),failC_old h]
        have hn:admC1 x e≠0:=by
         have h:=h8
         simp only[zb1,zb2,zb3,zb4]at h
         rw[hcd];exact h
        rw[admR_no (by rw[admC_one hn];exact hn),admC_one hn,hcd]
        refine end_ret ?_ ⟨rfl,rfl,rfl,rfl,rfl,trivial⟩
        rfl
       ·intro h8
        refine lmP Z<|lf 3 ty.F40_3 Z<|loI ty.kd3 Z<|lmI Z<|lbB Z ?_
        refine lst (z5a Tryz.func51 (scode_e _ _ _ _ _ _ _ _ _ _ _ _ _ _ _ _ _ _ _ ) (⟨stays.box (Eq.refl 8),trivial⟩) rfl rfl) Z<|lkB Z<|lmB rfl ?_
        refine AL.bool (t:=118) rfl ?_ ?_
        ·intro h9
         refine lno Z<|lno Z<|lno Z<|lno Z<|lno Z<|lno Z<|lno Z<|lkT Z<|lmT Z<|lno Z<|lno Z<|lno Z<|lno Z<|lkT Z<|nG<|aY Z<|aR<|rT ?_
         have hcd:admC1 x e=failC (decide (c.remote<admSum x e)) (failC (admBad x e) 0 10) 11:=by
          have h:=h9
          simp only[zb1,zb2,zb3,zb4]at h
          rw[hA]
          rw[failC_old h]
         have hn:admC1 x e≠0:=by
          have h:=h9
          simp only[zb1,zb2,zb3,zb4]at h
          rw[hcd];exact h
         rw[admR_no (by rw[admC_one hn];exact hn),admC_one hn,hcd]
         refine end_ret ?_ ⟨rfl,rfl,rfl,rfl,rfl,trivial⟩
         rfl
        ·intro h9
         refine lmP Z<|lf 2 ty.F40_2 Z<|loI ty.kd3 Z<|lf 4 ty.F29_4 Z<|loI ty.kd3 Z<|lbB Z ?_
         refine lst (z5a Tryz.func51 (scode_e _ _ _ _ _ _ _ _ _ _ _ _ _ _ _ _ _ _ _ ) (⟨stays.box (Eq.refl 8),trivial⟩) rfl rfl) Z<|lkB Z<|lmB rfl ?_
         refine AL.bool (t:=127) rfl ?_ ?_
         ·intro h10
          refine lno Z<|lno Z<|lno Z<|lno Z<|lkT Z<|nG<|aY Z<|aR<|rT ?_
          have hcd:admC1 x e=failC (decide (d.loc<e.amt)) (failC (decide (c.remote<admSum x e)) (failC (admBad x e) 0 10) 11) 12:=by
           have h:=h10
           simp only[zb1,zb2,zb3,zb4]at h
           rw[hA]
           skip
          have hn:admC1 x e≠0:=by
           have h:=h10
           simp only[zb1,zb2,zb3,zb4]at h
           rw[hcd];exact h
          rw[admR_no (by rw[admC_one hn];exact hn),admC_one hn,hcd]
          refine end_ret ?_ ⟨rfl,rfl,rfl,rfl,rfl,trivial⟩
          rfl
         ·intro h10
          refine lmP Z<|lmI Z<|lbB Z ?_
          refine lst (z5a Tryz.func51 (scode_e _ _ _ _ _ _ _ _ _ _ _ _ _ _ _ _ _ _ _ ) (⟨stays.box (Eq.refl 8),trivial⟩) rfl rfl) Z<|lkB Z<|nG ?_
          refine AW.cond rfl ?_ ?_
          ·intro h11
           refine aR<|rT ?_
           have hz1:admC1 x e=0:=by
            rw[hA]
            have h:=h10
            simp only[zb1,zb2,zb3,zb4]at h
            exact h
           have hcd:admC x e=failC (decide (admRoom x e=0)) (failC (decide (d.loc<e.amt)) (failC (decide (c.remote<admSum x e)) (failC (admBad x e) 0 10) 11) 12) 13:=by rw[admC_two hz1,hA]
           have hn:admC x e≠0:=by
            have h:=h11
            simp only[zb1,zb2,zb3,zb4]at h
            rw[hcd];exact h
           rw[admR_no hn,hcd]
           refine end_ret ?_ ⟨rfl,rfl,rfl,rfl,rfl,trivial⟩
           rfl
          ·intro h11
           refine aK<|gT ?_
           have hz1:admC1 x e=0:=by
            rw[hA]
            have h:=h10
            simp only[zb1,zb2,zb3,zb4]at h
            exact h
           have hy0:admC x e=0:=by
            have h:=h11
            simp only[zb1,zb2,zb3,zb4]at h
            rw[admC_two hz1,hA]
            exact h
           refine⟨(),hy0,trivial,⟨(Eq.trans (b:=sBox g x.tick x.next x.wallet _) rfl (congrArg (sBox g x.tick x.next x.wallet) (by rw[admC_two hz1,hA]at hy0;exact hy0))),trivial⟩,rfl,rfl⟩
      ·intro jd hy0
       refine aS<|aF [19,23]<|pq 0 (qmP Z)<|pq 1 (qmP Z)<|pq 2 (qc Z)<|pq 3 (qf 0 ty.F91_0 Z)<|pq 4 (qf 4 ty.F27_4 Z)<|sq 5 (roO ty.kd24 Z)<|pq 6 (qf 1 ty.F29_1 Z)<|sq 7 (roI ty.kd3 Z)<|pq 8 (qf 2 ty.F29_2 Z)<|sq 9 (roI ty.kd3 Z)<|pq 10 (qf 3 ty.F29_3 Z)<|sq 11 (roI ty.kd3 Z)<|pq 12 (qmX (vI _ _) Z)<|pq 13 (qf 4 ty.F29_4 Z)<|sq 14 (roI ty.kd3 Z)<|vq 15 (rmI Z)<|vq 16 (rbB Z)<|vq 17 (rd (x:=.agg [vI _ _,vI _ _,vI _ _,vI _ _,vI _ _,vB _,vI _ _]) (rd_build Z ty.sa68 Z Z Z) Z) ?_
       refine vst 18 rfl (zS 2151 (rowsOf encHtlc [⟨e.key,e.ch,e.to,admSum x e,e.amt,decide (admRoom x e=2),0⟩]) ty.el24 ty.ze68 rfl) (.inr rfl)<|vst 19 rfl (zP 2 ty.el24 ty.ze68 ty.by68 rfl (Src.own rfl rfl) (by have:=sm.lh;simp[rowsOf];omega)) (.inl rfl)<|vq 20 (rc rfl)<|vq 21 (rf 0 ty.F91_0 rfl)<|vq 22 (rf 4 ty.F27_4 rfl)<|vst 23 rfl (zB 0 ty.co24 ty.inf24 rfl) (.inl rfl)<|fD<|gT ?_
       refine AW.obj 2 (hAr (x.htlcs++[⟨e.key,e.ch,e.to,admSum x e,e.amt,decide (admRoom x e=2),0⟩])) ((congrArg (AO.arr 68 7) (rowsOf_app encHtlc _ [_]).symm)) ?_
       refine sL<|lmP Z<|lf 2 ty.F29_2 Z<|loI ty.kd3 Z<|lmI Z<|lq (rd (x:=vI _ _) (rd_un rfl rfl (fits_i64 (by have h2:A50 (admSum x e):=addV_A50 _ _;unfold A50 at *;unfold i64;omega))) rfl) ?_
       refine lst (z5a Tryz.func114 (smove_e _ ({ x with htlcs:=x.htlcs++[⟨e.key,e.ch,e.to,admSum x e,e.amt,decide (admRoom x e=2),0⟩] }) _ _ _ _ _ (hm) i c (hi) (hc) (by have h1:=hcm.1;unfold A50 at h1;unfold i64;omega) (by have h1:=hcm.2.1;have h2:A50 (admSum x e):=addV_A50 _ _;unfold A50 at *;unfold i64;omega)) (⟨stays.box (Eq.refl 8),trivial⟩) rfl rfl) Z<|lT [0,3] [0,1,2,3,4,2003,2004,2005,2016,2151] ?_
       refine nA<|lmP Z<|lf 3 ty.F29_3 Z<|loI ty.kd3 Z<|lf 4 ty.F29_4 Z<|loI ty.kd3 Z<|lq (rd (x:=vI _ _) (rd_un rfl rfl (fits_i64 (by have h2:=es.amt;unfold A50 at *;unfold i64;omega))) rfl) ?_
       refine lst (z5a Tryz.func114 (smove_e _ ({ x with htlcs:=x.htlcs++[⟨e.key,e.ch,e.to,admSum x e,e.amt,decide (admRoom x e=2),0⟩],chans:=x.chans.set i { c with loc:=c.loc+0,remote:=c.remote+-admSum x e } }) _ _ _ _ _ ((by rw[List.length_set];exact hm)) j d ((chanAt_set (c':={ c with loc:=c.loc+0,remote:=c.remote+-admSum x e }) hc rfl).trans hj) (set_get hd hij _) (by have h1:=hdm.1;have h2:=es.amt;unfold A50 at *;unfold i64;omega) (by have h1:=hdm.2.1;unfold A50 at h1;unfold i64;omega)) (⟨stays.box (Eq.refl 8),trivial⟩) rfl rfl) Z<|nG ?_
       refine AW.obj 1 (AO.arr 40 7 (rowsOf encChan (updC (updC x.chans e.ch fun c=>{ c with remote:=c.remote-admSum x e }) e.to fun c=>{ c with loc:=c.loc-e.amt }))) (congrArg (fun l=>AO.arr 40 7 (rowsOf encChan l)) ((by simp only[Int.add_zero,Int.sub_eq_add_neg]:_=((x.chans.set i { c with remote:=c.remote-admSum x e }).set j { d with loc:=d.loc-e.amt })).trans (set_two' fi.ids hc hd hid hjd hne (fun c=>{ c with remote:=c.remote-admSum x e }) (fun d=>{ d with loc:=d.loc-e.amt }) (fun _=>rfl)))) ?_
       refine sL<|lmP Z<|lf 3 ty.F29_3 Z<|loI ty.kd3 Z<|lf 4 ty.F29_4 Z<|loI ty.kd3 Z<|lq (rd (x:=vI _ _) (rd_un rfl rfl (fits_i64 (by have h2:=es.amt;unfold A50 at *;unfold i64;omega))) rfl) ?_
       refine lst (z5a Tryz.func53 (sline_e _ _ _ _ _ _ _ _ _ _ _ _ _ _ ([]) 0 (LG.nil) (by decide) _ _ _ (Fresh.nil _ _) (rangeA_neg es.amt)) (⟨stays.box (Eq.refl 8),trivial⟩) rfl rfl) Z<|lT [0,3] [0,1,2,3,4,2003,2004,2005,2016,2151] ?_
       refine nG<|aL<|lmP Z<|lf 3 ty.F29_3 Z<|loI ty.kd3 Z<|lf 4 ty.F29_4 Z<|loI ty.kd3 Z ?_
       refine lst (z5a Tryz.func53 (sline_e _ _ _ _ _ _ _ _ _ _ _ _ _ _ (addL [] 6 e.to (-e.amt)) 1 (LG.nil.add (rangeA_neg es.amt)) (by decide) _ _ _ ((Fresh.nil _ _).add (.inl (by decide))) (rangeA_of es.amt)) (⟨stays.box (Eq.refl 8),trivial⟩) rfl rfl) Z<|lN ?_
       rw[admR_yes hy0]
       unfold admY
       refine end_go ?_ ⟨rfl,rfl,rfl,rfl,rfl,trivial⟩
       rfl
    ·refine v1 14 rfl (zA 2004 ty.ze40 rfl) (.inr rfl)<|vst 11 rfl (zL Tryz.func55 (sAt_e x _ hm) rfl) (.inr rfl)<|vq 12 (rd (x:=.ptr 1 _ 0) (rd_iaddr_own (i:=i) rfl ty.el23 rfl rfl rfl ?hn4 (by rw[length_rowsOf];exact(List.getElem?_eq_some_iff.1 hc).1)) rfl) ?_
     case hn4=>rw[←chanAt_atI];exact hi
     refine vq 13 (rd (x:=.agg [vI _ _,vI _ _,vI _ _,vI _ _,vI _ _,vI _ _,vI _ _]) (rd_load_arr Z ty.kd40 Z Z Z (rows_some hc) Z) Z)<|vst 15 Z (zB 2004 ty.co40 ty.inf40 Z) (.inl Z)<|fD<|gT<|aS<|aF [15]<|pq 0 (qmP Z)<|pq 1 (qc Z)<|pq 2 (qf 0 ty.F91_0 Z)<|pq 3 (qf 3 ty.F27_3 Z)<|sq 4 (roO ty.kd23 Z)<|pq 5 (qmP Z)<|pq 6 (qc Z)<|pq 7 (qf 0 ty.F91_0 Z)<|sq 8 (roX (.agg [vI _ _,vI _ _,vI _ _,.own _,.own _,.own _]) ty.kd27 Z)<|pq 9 (qf 3 ty.F29_3 Z)<|sq 10 (roI ty.kd3 Z) ?_
     refine AF.two (i:=11) (j:=14) (by kernel_rfl) ?_ ?_
     ·refine v1 11 rfl (zL Tryz.func55 (sAt_e x _ hm) rfl) (.inr rfl)<|sq 12 (rd (x:=.ptr 1 _ 0) (rd_iaddr_own (i:=j) rfl ty.el23 rfl rfl rfl ?hn5 (by rw[length_rowsOf];exact(List.getElem?_eq_some_iff.1 hd).1)) rfl) ?_
      case hn5=>rw[←chanAt_atI];exact hj
      refine sq 13 (rd (x:=.agg [vI _ _,vI _ _,vI _ _,vI _ _,vI _ _,vI _ _,vI _ _]) (rd_load_arr Z ty.kd40 Z Z Z (rows_some hd) Z) Z)<|vst 14 Z (zA 2005 ty.ze40 Z) (.inr Z)<|vst 15 Z (zB 2005 ty.co40 ty.inf40 Z) (.inl Z)<|fD<|gA<|lf 4 ty.F40_4 Z<|loI ty.kd3 Z<|lf 5 ty.F40_5 Z<|lT [0,3,4,5,76,77] [0,1,2,3,4,2003,2004,2005,2016] ?_
      refine loI ty.kd3 Z<|lf 4 ty.F29_4 Z<|loI ty.kd3 Z<|lst (zL Tryz.func112 (sfeeUp_e _ _ _) rfl) Z<|lmX (.tup [vI _ _,vB _]) Z<|lxI Z<|lxB Z<|laI Z<|laB Z<|nA<|lf 4 ty.F29_4 Z<|loI ty.kd3 Z<|lmI Z<|lst (zL Tryz.func52 (saddAmt_e _ _) rfl) Z<|lmX (.tup [vI _ _,vB _]) Z<|lxI Z<|lsN 89 (admSum x e) rfl (by unfold admSum;rw[hp])<|lxB Z<|laI Z<|laB Z<|nG<|aS<|aF []<|pq 0 (qmP rfl)<|pq 1 (qc rfl)<|pq 2 (qf 0 ty.F91_0 rfl) ?_
      refine sq 3 (roX (.agg [vI _ _,vI _ _,vI _ _,.own _,.own _,.own _]) ty.kd27 rfl)<|sq 4 (roX (.agg [vI _ _,vI _ _,vI _ _,vI _ _,vI _ _,vI _ _,vI _ _]) ty.kd40 rfl)<|sq 5 (roX (.agg [vI _ _,vI _ _,vI _ _,vI _ _,vI _ _,vI _ _,vI _ _]) ty.kd40 rfl)<|pq 6 (qf 4 ty.F29_4 rfl)<|sq 7 (roI ty.kd3 rfl)<|vq 8 (rf 6 ty.F29_6 rfl)<|vq 9 (roB ty.kd4 rfl)<|vst 10 rfl (zL Tryz.func113 (sroom_e x c d _ _ sm.hs) rfl) (.inr rfl)<|fsN 101 (admRoom x e) rfl (by unfold admRoom;rw[ho,hp,hjd])<|vq 11 (raI rfl)<|fD<|gT<|aT [0,3,4,5,7,8,9,10] [0,1,2,3,4,2003,2004,2005,2016] ?_
      refine aJ [0,3,8,10] [1,2,3,4,2003,2004,2005,2016] (D:=Unit) (fun jd=>[]) (fun jd=>[(0,sBox g x.tick x.next x.wallet 0)]) (fun jd=>admC x e=0) ?_ ?_
      ·refine sL<|lmP Z<|lmB Z<|luB Z<|lmB Z ?_
       refine lor rfl rfl rfl ?_
       refine lsB 108 (admBad x e) rfl (by unfold admBad;rw[hp]) ?_
       refine lst (z5a Tryz.func51 (scode_e _ _ _ _ _ _ _ _ _ _ _ _ _ _ _ _ _ _ _ ) (⟨stays.box (Eq.refl 8),trivial⟩) rfl rfl) Z<|lmB rfl ?_
       refine AL.bool (t:=110) rfl ?_ ?_
       ·intro h12
        refine lno Z<|lno Z<|lno Z<|lno Z<|lno Z<|lno Z<|lkT Z<|lmT Z<|lno Z<|lno Z<|lno Z<|lno Z<|lno Z<|lno Z<|lno Z<|lkT Z<|lmT Z<|lno Z<|lno Z<|lno Z<|lno Z<|lkT Z<|nG<|aY Z<|aR<|rT ?_
        have hcd:admC1 x e=failC (admBad x e) 0 10:=by
         have h:=h12
         simp only[zb1,zb2,zb3,zb4]at h
         rw[hA]
         rw[failC_old (failC_keep h),failC_old h]
        have hn:admC1 x e≠0:=by
         have h:=h12
         simp only[zb1,zb2,zb3,zb4]at h
         rw[hcd];exact h
        rw[admR_no (by rw[admC_one hn];exact hn),admC_one hn,hcd]
        refine end_ret ?_ ⟨rfl,rfl,rfl,rfl,rfl,trivial⟩
        rfl
       ·intro h12
        refine lmP Z<|lf 3 ty.F40_3 Z<|loI ty.kd3 Z<|lmI Z<|lbB Z ?_
        refine lst (z5a Tryz.func51 (scode_e _ _ _ _ _ _ _ _ _ _ _ _ _ _ _ _ _ _ _ ) (⟨stays.box (Eq.refl 8),trivial⟩) rfl rfl) Z<|lkB Z<|lmB rfl ?_
        refine AL.bool (t:=118) rfl ?_ ?_
        ·intro h13
         refine lno Z<|lno Z<|lno Z<|lno Z<|lno Z<|lno Z<|lno Z<|lkT Z<|lmT Z<|lno Z<|lno Z<|lno Z<|lno Z<|lkT Z<|nG<|aY Z<|aR<|rT ?_
         have hcd:admC1 x e=failC (decide (c.remote<admSum x e)) (failC (admBad x e) 0 10) 11:=by
          have h:=h13
          simp only[zb1,zb2,zb3,zb4]at h
          rw[hA]
          rw[failC_old h]
         have hn:admC1 x e≠0:=by
          have h:=h13
          simp only[zb1,zb2,zb3,zb4]at h
          rw[hcd];exact h
         rw[admR_no (by rw[admC_one hn];exact hn),admC_one hn,hcd]
         refine end_ret ?_ ⟨rfl,rfl,rfl,rfl,rfl,trivial⟩
         rfl
        ·intro h13
         refine lmP Z<|lf 2 ty.F40_2 Z<|loI ty.kd3 Z<|lf 4 ty.F29_4 Z<|loI ty.kd3 Z<|lbB Z ?_
         refine lst (z5a Tryz.func51 (scode_e _ _ _ _ _ _ _ _ _ _ _ _ _ _ _ _ _ _ _ ) (⟨stays.box (Eq.refl 8),trivial⟩) rfl rfl) Z<|lkB Z<|lmB rfl ?_
         refine AL.bool (t:=127) rfl ?_ ?_
         ·intro h14
          refine lno Z<|lno Z<|lno Z<|lno Z<|lkT Z<|nG<|aT [0,3,8,10,132] [0,1,2,3,4,2003,2004,2005,2016] ?_
          refine aY Z<|aR<|rT ?_
          have hcd:admC1 x e=failC (decide (d.loc<e.amt)) (failC (decide (c.remote<admSum x e)) (failC (admBad x e) 0 10) 11) 12:=by
           have h:=h14
           simp only[zb1,zb2,zb3,zb4]at h
           rw[hA]
           skip
          have hn:admC1 x e≠0:=by
           have h:=h14
           simp only[zb1,zb2,zb3,zb4]at h
           rw[hcd];exact h
          rw[admR_no (by rw[admC_one hn];exact hn),admC_one hn,hcd]
          refine end_ret ?_ ⟨rfl,rfl,rfl,rfl,rfl,trivial⟩
          rfl
         ·intro h14
          refine lmP Z<|lmI Z<|lbB Z ?_
          refine lst (z5a Tryz.func51 (scode_e _ _ _ _ _ _ _ _ _ _ _ _ _ _ _ _ _ _ _ ) (⟨stays.box (Eq.refl 8),trivial⟩) rfl rfl) Z<|lkB Z<|nG ?_
          refine AW.cond rfl ?_ ?_
          ·intro h15
           refine aR<|rT ?_
           have hz1:admC1 x e=0:=by
            rw[hA]
            have h:=h14
            simp only[zb1,zb2,zb3,zb4]at h
            exact h
           have hcd:admC x e=failC (decide (admRoom x e=0)) (failC (decide (d.loc<e.amt)) (failC (decide (c.remote<admSum x e)) (failC (admBad x e) 0 10) 11) 12) 13:=by rw[admC_two hz1,hA]
           have hn:admC x e≠0:=by
            have h:=h15
            simp only[zb1,zb2,zb3,zb4]at h
            rw[hcd];exact h
           rw[admR_no hn,hcd]
           refine end_ret ?_ ⟨rfl,rfl,rfl,rfl,rfl,trivial⟩
           rfl
          ·intro h15
           refine aK<|gT ?_
           have hz1:admC1 x e=0:=by
            rw[hA]
            have h:=h14
            simp only[zb1,zb2,zb3,zb4]at h
            exact h
           have hy0:admC x e=0:=by
            have h:=h15
            simp only[zb1,zb2,zb3,zb4]at h
            rw[admC_two hz1,hA]
            exact h
           refine⟨(),hy0,trivial,⟨(Eq.trans (b:=sBox g x.tick x.next x.wallet _) rfl (congrArg (sBox g x.tick x.next x.wallet) (by rw[admC_two hz1,hA]at hy0;exact hy0))),trivial⟩,rfl,rfl⟩
      ·intro jd hy0
       refine aS<|aF [19,23]<|pq 0 (qmP Z)<|pq 1 (qmP Z)<|pq 2 (qc Z)<|pq 3 (qf 0 ty.F91_0 Z)<|pq 4 (qf 4 ty.F27_4 Z)<|sq 5 (roO ty.kd24 Z)<|pq 6 (qf 1 ty.F29_1 Z)<|sq 7 (roI ty.kd3 Z)<|pq 8 (qf 2 ty.F29_2 Z)<|sq 9 (roI ty.kd3 Z)<|pq 10 (qf 3 ty.F29_3 Z)<|sq 11 (roI ty.kd3 Z)<|pq 12 (qmX (vI _ _) Z)<|pq 13 (qf 4 ty.F29_4 Z)<|sq 14 (roI ty.kd3 Z)<|vq 15 (rmI Z)<|vq 16 (rbB Z)<|vq 17 (rd (x:=.agg [vI _ _,vI _ _,vI _ _,vI _ _,vI _ _,vB _,vI _ _]) (rd_build Z ty.sa68 Z Z Z) Z) ?_
       refine vst 18 rfl (zS 2151 (rowsOf encHtlc [⟨e.key,e.ch,e.to,admSum x e,e.amt,decide (admRoom x e=2),0⟩]) ty.el24 ty.ze68 rfl) (.inr rfl)<|vst 19 rfl (zP 2 ty.el24 ty.ze68 ty.by68 rfl (Src.own rfl rfl) (by have:=sm.lh;simp[rowsOf];omega)) (.inl rfl)<|vq 20 (rc rfl)<|vq 21 (rf 0 ty.F91_0 rfl)<|vq 22 (rf 4 ty.F27_4 rfl)<|vst 23 rfl (zB 0 ty.co24 ty.inf24 rfl) (.inl rfl)<|fD<|gT ?_
       refine AW.obj 2 (hAr (x.htlcs++[⟨e.key,e.ch,e.to,admSum x e,e.amt,decide (admRoom x e=2),0⟩])) ((congrArg (AO.arr 68 7) (rowsOf_app encHtlc _ [_]).symm)) ?_
       refine sL<|lmP Z<|lf 2 ty.F29_2 Z<|loI ty.kd3 Z<|lmI Z<|lq (rd (x:=vI _ _) (rd_un rfl rfl (fits_i64 (by have h2:A50 (admSum x e):=addV_A50 _ _;unfold A50 at *;unfold i64;omega))) rfl) ?_
       refine lst (z5a Tryz.func114 (smove_e _ ({ x with htlcs:=x.htlcs++[⟨e.key,e.ch,e.to,admSum x e,e.amt,decide (admRoom x e=2),0⟩] }) _ _ _ _ _ (hm) i c (hi) (hc) (by have h1:=hcm.1;unfold A50 at h1;unfold i64;omega) (by have h1:=hcm.2.1;have h2:A50 (admSum x e):=addV_A50 _ _;unfold A50 at *;unfold i64;omega)) (⟨stays.box (Eq.refl 8),trivial⟩) rfl rfl) Z<|lT [0,3] [0,1,2,3,4,2003,2004,2005,2016,2151] ?_
       refine nA<|lmP Z<|lf 3 ty.F29_3 Z<|loI ty.kd3 Z<|lf 4 ty.F29_4 Z<|loI ty.kd3 Z<|lq (rd (x:=vI _ _) (rd_un rfl rfl (fits_i64 (by have h2:=es.amt;unfold A50 at *;unfold i64;omega))) rfl) ?_
       refine lst (z5a Tryz.func114 (smove_e _ ({ x with htlcs:=x.htlcs++[⟨e.key,e.ch,e.to,admSum x e,e.amt,decide (admRoom x e=2),0⟩],chans:=x.chans.set i { c with loc:=c.loc+0,remote:=c.remote+-admSum x e } }) _ _ _ _ _ ((by rw[List.length_set];exact hm)) j d ((chanAt_set (c':={ c with loc:=c.loc+0,remote:=c.remote+-admSum x e }) hc rfl).trans hj) (set_get hd hij _) (by have h1:=hdm.1;have h2:=es.amt;unfold A50 at *;unfold i64;omega) (by have h1:=hdm.2.1;unfold A50 at h1;unfold i64;omega)) (⟨stays.box (Eq.refl 8),trivial⟩) rfl rfl) Z<|nG ?_
       refine AW.obj 1 (AO.arr 40 7 (rowsOf encChan (updC (updC x.chans e.ch fun c=>{ c with remote:=c.remote-admSum x e }) e.to fun c=>{ c with loc:=c.loc-e.amt }))) (congrArg (fun l=>AO.arr 40 7 (rowsOf encChan l)) ((by simp only[Int.add_zero,Int.sub_eq_add_neg]:_=((x.chans.set i { c with remote:=c.remote-admSum x e }).set j { d with loc:=d.loc-e.amt })).trans (set_two' fi.ids hc hd hid hjd hne (fun c=>{ c with remote:=c.remote-admSum x e }) (fun d=>{ d with loc:=d.loc-e.amt }) (fun _=>rfl)))) ?_
       refine sL<|lmP Z<|lf 3 ty.F29_3 Z<|loI ty.kd3 Z<|lf 4 ty.F29_4 Z<|loI ty.kd3 Z<|lq (rd (x:=vI _ _) (rd_un rfl rfl (fits_i64 (by have h2:=es.amt;unfold A50 at *;unfold i64;omega))) rfl) ?_
       refine lst (z5a Tryz.func53 (sline_e _ _ _ _ _ _ _ _ _ _ _ _ _ _ ([]) 0 (LG.nil) (by decide) _ _ _ (Fresh.nil _ _) (rangeA_neg es.amt)) (⟨stays.box (Eq.refl 8),trivial⟩) rfl rfl) Z<|lT [0,3] [0,1,2,3,4,2003,2004,2005,2016,2151] ?_
       refine nG<|aL<|lmP Z<|lf 3 ty.F29_3 Z<|loI ty.kd3 Z<|lf 4 ty.F29_4 Z<|loI ty.kd3 Z ?_
       refine lst (z5a Tryz.func53 (sline_e _ _ _ _ _ _ _ _ _ _ _ _ _ _ (addL [] 6 e.to (-e.amt)) 1 (LG.nil.add (rangeA_neg es.amt)) (by decide) _ _ _ ((Fresh.nil _ _).add (.inl (by decide))) (rangeA_of es.amt)) (⟨stays.box (Eq.refl 8),trivial⟩) rfl rfl) Z<|lN ?_
       rw[admR_yes hy0]
       unfold admY
       refine end_go ?_ ⟨rfl,rfl,rfl,rfl,rfl,trivial⟩
       rfl
     ·refine v1 14 rfl (zA 2005 ty.ze40 rfl) (.inr rfl)<|vst 11 rfl (zL Tryz.func55 (sAt_e x _ hm) rfl) (.inr rfl)<|vq 12 (rd (x:=.ptr 1 _ 0) (rd_iaddr_own (i:=j) rfl ty.el23 rfl rfl rfl ?hn6 (by rw[length_rowsOf];exact(List.getElem?_eq_some_iff.1 hd).1)) rfl) ?_
      case hn6=>rw[←chanAt_atI];exact hj
      refine vq 13 (rd (x:=.agg [vI _ _,vI _ _,vI _ _,vI _ _,vI _ _,vI _ _,vI _ _]) (rd_load_arr Z ty.kd40 Z Z Z (rows_some hd) Z) Z)<|vst 15 Z (zB 2005 ty.co40 ty.inf40 Z) (.inl Z)<|fD<|gA<|lf 4 ty.F40_4 Z<|loI ty.kd3 Z<|lf 5 ty.F40_5 Z<|loI ty.kd3 Z<|lf 4 ty.F29_4 Z<|loI ty.kd3 Z<|lst (zL Tryz.func112 (sfeeUp_e _ _ _) Z) Z<|lT [0,3,4,5,81] [0,1,2,3,4,2003,2004,2005,2016] ?_
      refine lmX (.tup [vI _ _,vB _]) Z<|lxI Z<|lxB Z<|laI Z<|laB Z<|nA<|lf 4 ty.F29_4 Z<|loI ty.kd3 Z<|lmI Z<|lst (zL Tryz.func52 (saddAmt_e _ _) rfl) Z<|lmX (.tup [vI _ _,vB _]) Z<|lxI Z<|lsN 89 (admSum x e) rfl (by unfold admSum;rw[hp])<|lxB Z<|laI Z<|laB Z<|nG<|aS<|aF []<|pq 0 (qmP rfl)<|pq 1 (qc rfl)<|pq 2 (qf 0 ty.F91_0 rfl)<|sq 3 (roX (.agg [vI _ _,vI _ _,vI _ _,.own _,.own _,.own _]) ty.kd27 rfl)<|sq 4 (roX (.agg [vI _ _,vI _ _,vI _ _,vI _ _,vI _ _,vI _ _,vI _ _]) ty.kd40 rfl)<|sq 5 (roX (.agg [vI _ _,vI _ _,vI _ _,vI _ _,vI _ _,vI _ _,vI _ _]) ty.kd40 rfl)<|pq 6 (qf 4 ty.F29_4 rfl) ?_
      refine sq 7 (roI ty.kd3 rfl)<|vq 8 (rf 6 ty.F29_6 rfl)<|vq 9 (roB ty.kd4 rfl)<|vst 10 rfl (zL Tryz.func113 (sroom_e x c d _ _ sm.hs) rfl) (.inr rfl)<|fsN 101 (admRoom x e) rfl (by unfold admRoom;rw[ho,hp,hjd])<|vq 11 (raI rfl)<|fD<|gT ?_
      refine aJ [0,3,8,10] [1,2,3,4,2003,2004,2005,2016] (D:=Unit) (fun jd=>[]) (fun jd=>[(0,sBox g x.tick x.next x.wallet 0)]) (fun jd=>admC x e=0) ?_ ?_
      ·refine sL<|lmP Z<|lmB Z<|luB Z<|lmB Z ?_
       refine lor rfl rfl rfl ?_
       refine lsB 108 (admBad x e) rfl (by unfold admBad;rw[hp]) ?_
       refine lst (z5a Tryz.func51 (scode_e _ _ _ _ _ _ _ _ _ _ _ _ _ _ _ _ _ _ _ ) (⟨stays.box (Eq.refl 8),trivial⟩) rfl rfl) Z<|lmB rfl ?_
       refine AL.bool (t:=110) rfl ?_ ?_
       ·intro h16
        refine lno Z<|lno Z<|lno Z<|lno Z<|lno Z<|lno Z<|lkT Z<|lmT Z<|lno Z<|lno Z<|lno Z<|lno Z<|lno Z<|lno Z<|lno Z<|lkT Z<|lmT Z<|lno Z<|lno Z<|lno Z<|lno Z<|lkT Z<|nG<|aT [0,3,8,10,132] [0,1,2,3,4,2003,2004,2005,2016] ?_
        refine aY Z<|aR<|rT ?_
        have hcd:admC1 x e=failC (admBad x e) 0 10:=by
         have h:=h16
         simp only[zb1,zb2,zb3,zb4]at h
         rw[hA]
         rw[failC_old (failC_keep h),failC_old h]
        have hn:admC1 x e≠0:=by
         have h:=h16
         simp only[zb1,zb2,zb3,zb4]at h
         rw[hcd];exact h
        rw[admR_no (by rw[admC_one hn];exact hn),admC_one hn,hcd]
        refine end_ret ?_ ⟨rfl,rfl,rfl,rfl,rfl,trivial⟩
        rfl
       ·intro h16
        refine lmP Z<|lf 3 ty.F40_3 Z<|loI ty.kd3 Z<|lmI Z<|lbB Z ?_
        refine lst (z5a Tryz.func51 (scode_e _ _ _ _ _ _ _ _ _ _ _ _ _ _ _ _ _ _ _ ) (⟨stays.box (Eq.refl 8),trivial⟩) rfl rfl) Z<|lkB Z<|lmB rfl ?_
        refine AL.bool (t:=118) rfl ?_ ?_
        ·intro h17
         refine lno Z<|lno Z<|lno Z<|lno Z<|lno Z<|lno Z<|lno Z<|lkT Z<|lmT Z<|lno Z<|lno Z<|lno Z<|lno Z<|lkT Z<|nG<|aY Z<|aR<|rT ?_
         have hcd:admC1 x e=failC (decide (c.remote<admSum x e)) (failC (admBad x e) 0 10) 11:=by
          have h:=h17
          simp only[zb1,zb2,zb3,zb4]at h
          rw[hA]
          rw[failC_old h]
         have hn:admC1 x e≠0:=by
          have h:=h17
          simp only[zb1,zb2,zb3,zb4]at h
          rw[hcd];exact h
         rw[admR_no (by rw[admC_one hn];exact hn),admC_one hn,hcd]
         refine end_ret ?_ ⟨rfl,rfl,rfl,rfl,rfl,trivial⟩
         rfl
        ·intro h17
         refine lmP Z<|lf 2 ty.F40_2 Z<|loI ty.kd3 Z<|lf 4 ty.F29_4 Z<|loI ty.kd3 Z<|lbB Z ?_
         refine lst (z5a Tryz.func51 (scode_e _ _ _ _ _ _ _ _ _ _ _ _ _ _ _ _ _ _ _ ) (⟨stays.box (Eq.refl 8),trivial⟩) rfl rfl) Z<|lkB Z<|lmB rfl ?_
         refine AL.bool (t:=127) rfl ?_ ?_
         ·intro h18
          refine lno Z<|lno Z<|lno Z<|lno Z<|lkT Z<|nG<|aY Z<|aR<|rT ?_
          have hcd:admC1 x e=failC (decide (d.loc<e.amt)) (failC (decide (c.remote<admSum x e)) (failC (admBad x e) 0 10) 11) 12:=by
           have h:=h18
           simp only[zb1,zb2,zb3,zb4]at h
           rw[hA]
           skip
          have hn:admC1 x e≠0:=by
           have h:=h18
           simp only[zb1,zb2,zb3,zb4]at h
           rw[hcd];exact h
          rw[admR_no (by rw[admC_one hn];exact hn),admC_one hn,hcd]
          refine end_ret ?_ ⟨rfl,rfl,rfl,rfl,rfl,trivial⟩
          rfl
         ·intro h18
          refine lmP Z<|lmI Z<|lbB Z ?_
          refine lst (z5a Tryz.func51 (scode_e _ _ _ _ _ _ _ _ _ _ _ _ _ _ _ _ _ _ _ ) (⟨stays.box (Eq.refl 8),trivial⟩) rfl rfl) Z<|lkB Z<|nG ?_
          refine AW.cond rfl ?_ ?_
          ·intro h19
           refine aR<|rT ?_
           have hz1:admC1 x e=0:=by
            rw[hA]
            have h:=h18
            simp only[zb1,zb2,zb3,zb4]at h
            exact h
           have hcd:admC x e=failC (decide (admRoom x e=0)) (failC (decide (d.loc<e.amt)) (failC (decide (c.remote<admSum x e)) (failC (admBad x e) 0 10) 11) 12) 13:=by rw[admC_two hz1,hA]
           have hn:admC x e≠0:=by
            have h:=h19
            simp only[zb1,zb2,zb3,zb4]at h
            rw[hcd];exact h
           rw[admR_no hn,hcd]
           refine end_ret ?_ ⟨rfl,rfl,rfl,rfl,rfl,trivial⟩
           rfl
          ·intro h19
           refine aK<|gT ?_
           have hz1:admC1 x e=0:=by
            rw[hA]
            have h:=h18
            simp only[zb1,zb2,zb3,zb4]at h
            exact h
           have hy0:admC x e=0:=by
            have h:=h19
            simp only[zb1,zb2,zb3,zb4]at h
            rw[admC_two hz1,hA]
            exact h
           refine⟨(),hy0,trivial,⟨(Eq.trans (b:=sBox g x.tick x.next x.wallet _) rfl (congrArg (sBox g x.tick x.next x.wallet) (by rw[admC_two hz1,hA]at hy0;exact hy0))),trivial⟩,rfl,rfl⟩
      ·intro jd hy0
       refine aS<|aF [19,23]<|pq 0 (qmP Z)<|pq 1 (qmP Z)<|pq 2 (qc Z)<|pq 3 (qf 0 ty.F91_0 Z)<|pq 4 (qf 4 ty.F27_4 Z)<|sq 5 (roO ty.kd24 Z)<|pq 6 (qf 1 ty.F29_1 Z)<|sq 7 (roI ty.kd3 Z)<|pq 8 (qf 2 ty.F29_2 Z)<|sq 9 (roI ty.kd3 Z)<|pq 10 (qf 3 ty.F29_3 Z)<|sq 11 (roI ty.kd3 Z)<|pq 12 (qmX (vI _ _) Z)<|pq 13 (qf 4 ty.F29_4 Z)<|sq 14 (roI ty.kd3 Z)<|vq 15 (rmI Z)<|vq 16 (rbB Z)<|vq 17 (rd (x:=.agg [vI _ _,vI _ _,vI _ _,vI _ _,vI _ _,vB _,vI _ _]) (rd_build Z ty.sa68 Z Z Z) Z) ?_
       refine vst 18 rfl (zS 2151 (rowsOf encHtlc [⟨e.key,e.ch,e.to,admSum x e,e.amt,decide (admRoom x e=2),0⟩]) ty.el24 ty.ze68 rfl) (.inr rfl)<|vst 19 rfl (zP 2 ty.el24 ty.ze68 ty.by68 rfl (Src.own rfl rfl) (by have:=sm.lh;simp[rowsOf];omega)) (.inl rfl)<|vq 20 (rc rfl)<|vq 21 (rf 0 ty.F91_0 rfl)<|vq 22 (rf 4 ty.F27_4 rfl)<|vst 23 rfl (zB 0 ty.co24 ty.inf24 rfl) (.inl rfl)<|fD<|gT ?_
       refine AW.obj 2 (hAr (x.htlcs++[⟨e.key,e.ch,e.to,admSum x e,e.amt,decide (admRoom x e=2),0⟩])) ((congrArg (AO.arr 68 7) (rowsOf_app encHtlc _ [_]).symm)) ?_
       refine sL<|lmP Z<|lf 2 ty.F29_2 Z<|loI ty.kd3 Z<|lmI Z<|lq (rd (x:=vI _ _) (rd_un rfl rfl (fits_i64 (by have h2:A50 (admSum x e):=addV_A50 _ _;unfold A50 at *;unfold i64;omega))) rfl) ?_
       refine lst (z5a Tryz.func114 (smove_e _ ({ x with htlcs:=x.htlcs++[⟨e.key,e.ch,e.to,admSum x e,e.amt,decide (admRoom x e=2),0⟩] }) _ _ _ _ _ (hm) i c (hi) (hc) (by have h1:=hcm.1;unfold A50 at h1;unfold i64;omega) (by have h1:=hcm.2.1;have h2:A50 (admSum x e):=addV_A50 _ _;unfold A50 at *;unfold i64;omega)) (⟨stays.box (Eq.refl 8),trivial⟩) rfl rfl) Z<|lT [0,3] [0,1,2,3,4,2003,2004,2005,2016,2151] ?_
       refine nA<|lmP Z<|lf 3 ty.F29_3 Z<|loI ty.kd3 Z<|lf 4 ty.F29_4 Z<|loI ty.kd3 Z<|lq (rd (x:=vI _ _) (rd_un rfl rfl (fits_i64 (by have h2:=es.amt;unfold A50 at *;unfold i64;omega))) rfl) ?_
       refine lst (z5a Tryz.func114 (smove_e _ ({ x with htlcs:=x.htlcs++[⟨e.key,e.ch,e.to,admSum x e,e.amt,decide (admRoom x e=2),0⟩],chans:=x.chans.set i { c with loc:=c.loc+0,remote:=c.remote+-admSum x e } }) _ _ _ _ _ ((by rw[List.length_set];exact hm)) j d ((chanAt_set (c':={ c with loc:=c.loc+0,remote:=c.remote+-admSum x e }) hc rfl).trans hj) (set_get hd hij _) (by have h1:=hdm.1;have h2:=es.amt;unfold A50 at *;unfold i64;omega) (by have h1:=hdm.2.1;unfold A50 at h1;unfold i64;omega)) (⟨stays.box (Eq.refl 8),trivial⟩) rfl rfl) Z<|nG ?_
       refine AW.obj 1 (AO.arr 40 7 (rowsOf encChan (updC (updC x.chans e.ch fun c=>{ c with remote:=c.remote-admSum x e }) e.to fun c=>{ c with loc:=c.loc-e.amt }))) (congrArg (fun l=>AO.arr 40 7 (rowsOf encChan l)) ((by simp only[Int.add_zero,Int.sub_eq_add_neg]:_=((x.chans.set i { c with remote:=c.remote-admSum x e }).set j { d with loc:=d.loc-e.amt })).trans (set_two' fi.ids hc hd hid hjd hne (fun c=>{ c with remote:=c.remote-admSum x e }) (fun d=>{ d with loc:=d.loc-e.amt }) (fun _=>rfl)))) ?_
       refine sL<|lmP Z<|lf 3 ty.F29_3 Z<|loI ty.kd3 Z<|lf 4 ty.F29_4 Z<|loI ty.kd3 Z<|lq (rd (x:=vI _ _) (rd_un rfl rfl (fits_i64 (by have h2:=es.amt;unfold A50 at *;unfold i64;omega))) rfl) ?_
       refine lst (z5a Tryz.func53 (sline_e _ _ _ _ _ _ _ _ _ _ _ _ _ _ ([]) 0 (LG.nil) (by decide) _ _ _ (Fresh.nil _ _) (rangeA_neg es.amt)) (⟨stays.box (Eq.refl 8),trivial⟩) rfl rfl) Z<|lT [0,3] [0,1,2,3,4,2003,2004,2005,2016,2151] ?_
       refine nG<|aL<|lmP Z<|lf 3 ty.F29_3 Z<|loI ty.kd3 Z<|lf 4 ty.F29_4 Z<|loI ty.kd3 Z ?_
       refine lst (z5a Tryz.func53 (sline_e _ _ _ _ _ _ _ _ _ _ _ _ _ _ (addL [] 6 e.to (-e.amt)) 1 (LG.nil.add (rangeA_neg es.amt)) (by decide) _ _ _ ((Fresh.nil _ _).add (.inl (by decide))) (rangeA_of es.amt)) (⟨stays.box (Eq.refl 8),trivial⟩) rfl rfl) Z<|lN ?_
       rw[admR_yes hy0]
       unfold admY
       refine end_go ?_ ⟨rfl,rfl,rfl,rfl,rfl,trivial⟩
       rfl

theorem slau_e(g:Value)(x:Book)(e:Event)(fi:BookFi x)(es:EvSm e)(hne:e.ch≠e.to):GC Tryz.prog 60 [.ptr 0 0 0,evV e] (sIn g x [] 0) (.tup []) (sOut g (lauR x e)):=by
 have sm:=fi.sm
 have hm:x.chans.length≤1000000000:=by have:=sm.lc;omega
 have hlh:=sm.lh
 have hli:=sm.li
 have hmh1:x.htlcs.length≤1000:=by omega
 have hmc1:x.circles.length≤1000:=by omega
 have hLh:decide ((x.htlcs.length:Int)=60)=decide ((60:Int)≤(x.htlcs.length:Int)):=by apply decide_eq_decide.2;omega
 have hLi:decide ((x.circles.length:Int)=20)=decide ((20:Int)≤(x.circles.length:Int)):=by apply decide_eq_decide.2;omega

 refine GC.intro (rs:=[]) Tryz.func60 rfl Tryz.ntmps60 (Nat.le_of_ble_eq_true rfl) trivial ?_
 intro L O w0
 refine sL<|lst (zX 2003 rfl) Z<|nG<|aS<|aS<|aF [9,22,33]<|pq 0 (qmP rfl)<|pq 1 (qmP rfl)<|pq 2 (qc rfl)<|pq 3 (qf 0 ty.F91_0 rfl)<|sq 4 (roX (.agg [vI _ _,vI _ _,vI _ _,.own _,.own _,.own _]) ty.kd27 rfl)<|pq 6 (qf 1 ty.F29_1 rfl)<|sq 7 (roI ty.kd3 rfl)<|vst 5 rfl (St.lendO 2011 rfl (by intro s hs;cases hs;decide) rfl Tryz.func110 rfl rfl (skeys_e x hmh1 hmc1) flat_rowsOf rfl) (.inr rfl)<|vst 8 rfl (zL Tryz.func109 (shasInt_e (keyL x) _ (by unfold keyL;simp;omega)) rfl) (.inr rfl)<|fsB 14 (knownB x e.key) rfl (any_keys x e.key) ?_
 refine vst 9 rfl (z5a Tryz.func51 (scode_e _ _ _ _ _ _ _ _ _ _ _ _ _ _ _ _ _ _ _ ) (⟨stays.box (Eq.refl 8),trivial⟩) rfl rfl) (.inl rfl)<|vq 10 (rmB rfl) ?_
 refine AF.bool (t:=16) rfl ?_ ?_
 ·intro h1
  refine pno 11 Z<|pno 12 Z<|pno 13 Z<|pno 14 Z<|pno 15 Z<|pno 16 Z<|pno 17 Z<|vno 18 Z<|vno 19 Z<|vno 20 Z<|vno 21 Z<|vno 22 Z<|vq 23 (rkT Z)<|vq 24 (rmT Z)<|pno 25 Z<|vno 26 Z<|vno 27 Z<|vno 28 Z<|vno 29 Z<|vno 30 Z<|vno 31 Z<|vno 32 Z<|vno 33 Z<|vq 34 (rkT Z)<|fD<|gT<|aY Z<|aR<|rT ?_
  have hcd:lauC0 x e=failC (knownB x e.key) 0 9:=by
   have h:=h1
   unfold lauC0
   rw[miss_two hne]
   simp only[zb1,zb2,zb3,zb4]at h
   rw[failC_old (c:=failC (!two x.chans e.ch e.to) (failC (knownB x e.key) 0 9) 6) (failC_keep h),failC_old h]
  have hn:lauC0 x e≠0:=by
   have h:=h1
   simp only[zb1,zb2,zb3,zb4]at h
   rw[hcd];exact h
  have hcd2:lauC x e=lauC0 x e:=by
   unfold lauC
   rw[failC_old (failC_keep (failC_keep hn)),failC_old (failC_keep hn),failC_old hn]
  rw[lauR_no (by rw[hcd2];exact hn),hcd2,hcd]
  refine end_ret ?_ ⟨rfl,rfl,rfl,rfl,rfl,trivial⟩
  rfl
 ·intro h1
  refine pq 11 (qmP Z)<|pq 12 (qmP Z)<|pq 13 (qc Z)<|pq 14 (qf 0 ty.F91_0 Z)<|sq 15 (roX (.agg [vI _ _,vI _ _,vI _ _,.own _,.own _,.own _]) ty.kd27 Z)<|pq 16 (qf 2 ty.F29_2 Z)<|sq 17 (roI ty.kd3 Z)<|vq 18 (rf 3 ty.F29_3 Z)<|vq 19 (roI ty.kd3 Z)<|vst 20 Z (zL Tryz.func111 (stwo_e x _ _ hm) Z) (.inr Z)<|vq 21 (ruB Z) ?_
  refine vst 22 rfl (z5a Tryz.func51 (scode_e _ _ _ _ _ _ _ _ _ _ _ _ _ _ _ _ _ _ _ ) (⟨stays.box (Eq.refl 8),trivial⟩) rfl rfl) (.inl rfl)<|vq 23 (rkB rfl)<|vq 24 (rmB rfl) ?_
  refine AF.bool (t:=30) rfl ?_ ?_
  ·intro h2
   refine pno 25 Z<|vno 26 Z<|vno 27 Z<|vno 28 Z<|vno 29 Z<|vno 30 Z<|vno 31 Z<|vno 32 Z<|vno 33 Z<|vq 34 (rkT Z)<|fD<|gT<|aT [0,3,40] [0,1,2,3,4,2003,2011] ?_
   refine aY Z<|aR<|rT ?_
   have hcd:lauC0 x e=failC (!two x.chans e.ch e.to) (failC (knownB x e.key) 0 9) 6:=by
    have h:=h2
    unfold lauC0
    rw[miss_two hne]
    simp only[zb1,zb2,zb3,zb4]at h
    rw[failC_old h]
   have hn:lauC0 x e≠0:=by
    have h:=h2
    simp only[zb1,zb2,zb3,zb4]at h
    rw[hcd];exact h
   have hcd2:lauC x e=lauC0 x e:=by
    unfold lauC
    rw[failC_old (failC_keep (failC_keep hn)),failC_old (failC_keep hn),failC_old hn]
   rw[lauR_no (by rw[hcd2];exact hn),hcd2,hcd]
   refine end_ret ?_ ⟨rfl,rfl,rfl,rfl,rfl,trivial⟩
   rfl
  ·intro h2
   refine pq 25 (qmP rfl)<|vq 26 (rmP rfl)<|vq 27 (rc rfl)<|vq 28 (rf 0 ty.F91_0 rfl)<|vq 29 (rf 5 ty.F27_5 rfl)<|vq 30 (roO ty.kd25 rfl)<|vq 31 (rnI ty.sl25 rfl)<|vq 32 (rbB rfl)<|fsB 38 (decide ((20:Int)≤(x.circles.length:Int))) rfl (by rw[length_rowsOf];exact hLi) ?_
   refine vst 33 rfl (z5a Tryz.func51 (scode_e _ _ _ _ _ _ _ _ _ _ _ _ _ _ _ _ _ _ _ ) (⟨stays.box (Eq.refl 8),trivial⟩) rfl rfl) (.inl rfl)<|vq 34 (rkB rfl)<|fD<|gT ?_
   refine AW.cond rfl ?_ ?_
   ·intro h3
    refine aR<|rT ?_
    have hcd:lauC0 x e=failC (decide ((20:Int)≤(x.circles.length:Int))) (failC (!two x.chans e.ch e.to) (failC (knownB x e.key) 0 9) 6) 14:=by
     unfold lauC0
     rw[miss_two hne]
    have hn:lauC0 x e≠0:=by
     have h:=h3
     simp only[zb1,zb2,zb3,zb4]at h
     rw[hcd];exact h
    have hcd2:lauC x e=lauC0 x e:=by
     unfold lauC
     rw[failC_old (failC_keep (failC_keep hn)),failC_old (failC_keep hn),failC_old hn]
    rw[lauR_no (by rw[hcd2];exact hn),hcd2,hcd]
    refine end_ret ?_ ⟨rfl,rfl,rfl,rfl,rfl,trivial⟩
    rfl
   ·intro h3
    refine aK<|gT<|aS ?_
    have hz0:lauC0 x e=0:=by
     have h:=h3
     unfold lauC0
     rw[miss_two hne]
     simp only[zb1,zb2,zb3,zb4]at h
     exact h
    have htw:two x.chans e.ch e.to=true:=by
     rcases q:two x.chans e.ch e.to with _|_
     ·exfalso
      have h:=hz0
      unfold lauC0 at h
      rw[miss_two hne,q]at h
      exact failC_keep (failC_set (by decide)) h
     ·rfl
    obtain⟨hne2,hca,hda⟩:=two_parts (show two x.chans e.ch e.to=true by first|(simpa using htw))
    obtain⟨i,c,hi,hc,ho,hid⟩:=chan_there hca
    obtain⟨j,d,hj,hd,hp,hjd⟩:=chan_there hda
    have hcm:=sm.chans c (mem_of_get hc)
    have hdm:=sm.chans d (mem_of_get hd)
    have hij:i≠j:=idx_ne hc hd (by rw[hid,hjd];exact hne)
    refine AW.obj 0 (sBox g x.tick x.next x.wallet 0) (Eq.trans (b:=sBox g x.tick x.next x.wallet _) rfl (congrArg (sBox g x.tick x.next x.wallet) (by have h:=hz0;unfold lauC0 at h;rw[miss_two hne]at h;exact h))) ?_
    have hA:lauC x e=failC (decide (d.remote<e.amt)) (failC (decide (c.loc<addV e.amt e.fee)) (failC (!addOk e.amt e.fee) 0 10) 12) 11:=by unfold lauC;rw[ho,hp,hz0]
    refine aL<|lf 4 ty.F29_4 Z<|loI ty.kd3 Z<|lf 5 ty.F29_5 Z<|loI ty.kd3 Z<|lst (zL Tryz.func52 (saddAmt_e _ _) Z) Z<|lmX (.tup [vI _ _,vB _]) Z<|lxI Z<|lxB Z<|laI Z<|laB Z<|nG<|aS<|aS<|aF [3,23,45]<|pq 0 (qmP Z)<|vq 1 (rmB Z)<|vq 2 (ruB Z) ?_
    refine vst 3 rfl (z5a Tryz.func51 (scode_e _ _ _ _ _ _ _ _ _ _ _ _ _ _ _ _ _ _ _ ) (⟨stays.box (Eq.refl 8),trivial⟩) rfl rfl) (.inl rfl)<|vq 4 (rmB rfl) ?_
    refine AF.bool (t:=53) rfl ?_ ?_
    ·intro h4
     refine pno 5 Z<|pno 6 Z<|pno 7 Z<|pno 8 Z<|pno 9 Z<|pno 10 Z<|pno 11 Z<|pno 12 Z<|pno 13 Z<|pno 14 Z<|pno 15 Z<|pno 16 Z<|pno 17 Z<|pno 18 Z<|pno 19 Z<|pno 20 Z<|vno 21 Z<|vno 22 Z<|vno 23 Z<|vq 24 (rkT Z)<|vq 25 (rmT Z)<|pno 26 Z<|pno 27 Z<|pno 28 Z<|pno 29 Z<|pno 30 Z<|pno 31 Z<|pno 32 Z<|pno 33 Z<|pno 34 Z ?_
     refine pno 35 Z<|pno 36 Z<|pno 37 Z<|pno 38 Z<|pno 39 Z<|pno 40 Z<|pno 41 Z<|vno 42 Z<|vno 43 Z<|vno 44 Z<|vno 45 Z<|vq 46 (rkT Z)<|fD<|gT<|aY Z<|aR<|rT ?_
     have hcd:lauC x e=failC (!addOk e.amt e.fee) 0 10:=by
      have h:=h4
      simp only[zb1,zb2,zb3,zb4]at h
      rw[hA]
      rw[failC_old (failC_keep h),failC_old h]
     have hn:lauC x e≠0:=by
      have h:=h4
      simp only[zb1,zb2,zb3,zb4]at h
      rw[hcd];exact h
     rw[lauR_no hn,hcd]
     refine end_ret ?_ ⟨rfl,rfl,rfl,rfl,rfl,trivial⟩
     rfl
    ·intro h4
     refine pq 5 (qmP rfl)<|pq 6 (qmP rfl)<|pq 7 (qc rfl)<|pq 8 (qf 0 ty.F91_0 rfl)<|pq 9 (qf 3 ty.F27_3 rfl)<|sq 10 (roO ty.kd23 rfl)<|pq 11 (qmP rfl)<|pq 12 (qc rfl)<|pq 13 (qf 0 ty.F91_0 rfl)<|sq 14 (roX (.agg [vI _ _,vI _ _,vI _ _,.own _,.own _,.own _]) ty.kd27 rfl)<|pq 15 (qf 2 ty.F29_2 rfl)<|sq 16 (roI ty.kd3 rfl)<|pq 21 (qmX (vI _ _) rfl)<|vst 17 rfl (zL Tryz.func55 (sAt_e x _ hm) rfl) (.inr rfl)<|vq 18 (rd (x:=.ptr 1 _ 0) (rd_iaddr_own (i:=i) rfl ty.el23 rfl rfl rfl ?hn1 (by rw[length_rowsOf];exact(List.getElem?_eq_some_iff.1 hc).1)) rfl) ?_
     case hn1=>rw[←chanAt_atI];exact hi
     refine vq 19 (rf 2 ty.F40_2 Z)<|vq 20 (rd (x:=vI _ _) (rd_load_arr Z ty.kd3 Z Z Z (rows_some hc) Z) Z)<|vq 22 (rbB Z) ?_
     refine vst 23 rfl (z5a Tryz.func51 (scode_e _ _ _ _ _ _ _ _ _ _ _ _ _ _ _ _ _ _ _ ) (⟨stays.box (Eq.refl 8),trivial⟩) rfl rfl) (.inl rfl)<|vq 24 (rkB rfl)<|vq 25 (rmB rfl) ?_
     refine AF.bool (t:=74) rfl ?_ ?_
     ·intro h5
      refine pno 26 Z<|pno 27 Z<|pno 28 Z<|pno 29 Z<|pno 30 Z<|pno 31 Z<|pno 32 Z<|pno 33 Z<|pno 34 Z<|pno 35 Z<|pno 36 Z<|pno 37 Z<|pno 38 Z<|pno 39 Z<|pno 40 Z<|pno 41 Z<|vno 42 Z<|vno 43 Z<|vno 44 Z<|vno 45 Z<|vq 46 (rkT Z)<|fD<|gT<|aT [0,3,4,95] [0,1,2,3,4,2003,2011] ?_
      refine aY Z<|aR<|rT ?_
      have hcd:lauC x e=failC (decide (c.loc<addV e.amt e.fee)) (failC (!addOk e.amt e.fee) 0 10) 12:=by
       have h:=h5
       simp only[zb1,zb2,zb3,zb4]at h
       rw[hA]
       rw[failC_old h]
      have hn:lauC x e≠0:=by
       have h:=h5
       simp only[zb1,zb2,zb3,zb4]at h
       rw[hcd];exact h
      rw[lauR_no hn,hcd]
      refine end_ret ?_ ⟨rfl,rfl,rfl,rfl,rfl,trivial⟩
      rfl
     ·intro h5
      refine pq 26 (qmP rfl)<|pq 27 (qmP rfl)<|pq 28 (qc rfl)<|pq 29 (qf 0 ty.F91_0 rfl)<|pq 30 (qf 3 ty.F27_3 rfl)<|sq 31 (roO ty.kd23 rfl)<|pq 32 (qmP rfl)<|pq 33 (qc rfl)<|pq 34 (qf 0 ty.F91_0 rfl)<|sq 35 (roX (.agg [vI _ _,vI _ _,vI _ _,.own _,.own _,.own _]) ty.kd27 rfl)<|pq 36 (qf 3 ty.F29_3 rfl)<|sq 37 (roI ty.kd3 rfl)<|pq 42 (qf 4 ty.F29_4 rfl)<|sq 43 (roI ty.kd3 rfl)<|vst 38 rfl (zL Tryz.func55 (sAt_e x _ hm) rfl) (.inr rfl)<|vq 39 (rd (x:=.ptr 1 _ 0) (rd_iaddr_own (i:=j) rfl ty.el23 rfl rfl rfl ?hn2 (by rw[length_rowsOf];exact(List.getElem?_eq_some_iff.1 hd).1)) rfl) ?_
      case hn2=>rw[←chanAt_atI];exact hj
      refine vq 40 (rf 3 ty.F40_3 Z)<|vq 41 (rd (x:=vI _ _) (rd_load_arr Z ty.kd3 Z Z Z (rows_some hd) Z) Z)<|vq 44 (rbB Z) ?_
      refine vst 45 rfl (z5a Tryz.func51 (scode_e _ _ _ _ _ _ _ _ _ _ _ _ _ _ _ _ _ _ _ ) (⟨stays.box (Eq.refl 8),trivial⟩) rfl rfl) (.inl rfl)<|vq 46 (rkB rfl)<|fD<|gT ?_
      refine AW.cond rfl ?_ ?_
      ·intro h6
       refine aR<|rT ?_
       have hcd:lauC x e=failC (decide (d.remote<e.amt)) (failC (decide (c.loc<addV e.amt e.fee)) (failC (!addOk e.amt e.fee) 0 10) 12) 11:=hA
       have hn:lauC x e≠0:=by
        have h:=h6
        simp only[zb1,zb2,zb3,zb4]at h
        rw[hcd];exact h
       rw[lauR_no hn,hcd]
       refine end_ret ?_ ⟨rfl,rfl,rfl,rfl,rfl,trivial⟩
       rfl
      ·intro h6
       refine aK<|gT<|aS ?_
       have hy0:lauC x e=0:=by
        rw[hA]
        have h:=h6
        simp only[zb1,zb2,zb3,zb4]at h
        exact h
       refine aF [18,22]<|pq 0 (qmP Z)<|pq 1 (qmP Z)<|pq 2 (qc Z)<|pq 3 (qf 0 ty.F91_0 Z)<|pq 4 (qf 5 ty.F27_5 Z)<|sq 5 (roO ty.kd25 Z)<|pq 6 (qf 1 ty.F29_1 Z)<|sq 7 (roI ty.kd3 Z)<|pq 8 (qf 2 ty.F29_2 Z)<|fT [0,3,4,96,101,103,104] [0,1,2,3,4,2003,2011] ?_
       refine sq 9 (roI ty.kd3 Z)<|pq 10 (qf 3 ty.F29_3 Z)<|sq 11 (roI ty.kd3 Z)<|pq 12 (qf 4 ty.F29_4 Z)<|sq 13 (roI ty.kd3 Z)<|vq 14 (rf 5 ty.F29_5 Z)<|vq 15 (roI ty.kd3 Z)<|vq 16 (rd (x:=.agg [vI _ _,vI _ _,vI _ _,vI _ _,vI _ _]) (rd_build Z ty.sa78 Z Z Z) Z) ?_
       refine vst 17 rfl (zS 2113 (rowsOf encCircle [⟨e.key,e.ch,e.to,e.amt,e.fee⟩]) ty.el25 ty.ze78 rfl) (.inr rfl)<|vst 18 rfl (zP 3 ty.el25 ty.ze78 ty.by78 rfl (Src.own rfl rfl) (by have:=sm.li;simp[rowsOf];omega)) (.inl rfl)<|vq 19 (rc rfl)<|vq 20 (rf 0 ty.F91_0 rfl)<|vq 21 (rf 5 ty.F27_5 rfl)<|vst 22 rfl (zB 0 ty.co25 ty.inf25 rfl) (.inl rfl)<|fT [0,3,4] [0,1,2,3,4,2003,2011,2113] ?_
       refine fD<|gT ?_
       refine AW.obj 3 (iAr (x.circles++[⟨e.key,e.ch,e.to,e.amt,e.fee⟩])) ((congrArg (AO.arr 78 5) (rowsOf_app encCircle _ [_]).symm)) ?_
       refine sL<|lmP Z<|lf 2 ty.F29_2 Z<|loI ty.kd3 Z<|lmI Z<|lq (rd (x:=vI _ _) (rd_un rfl rfl (fits_i64 (by have h2:A50 (addV e.amt e.fee):=addV_A50 _ _;unfold A50 at *;unfold i64;omega))) rfl) ?_
       refine lst (z5a Tryz.func114 (smove_e _ ({ x with circles:=x.circles++[⟨e.key,e.ch,e.to,e.amt,e.fee⟩] }) _ _ _ _ _ (hm) i c (hi) (hc) (by have h1:=hcm.1;have h2:A50 (addV e.amt e.fee):=addV_A50 _ _;unfold A50 at *;unfold i64;omega) (by have h1:=hcm.2.1;unfold A50 at h1;unfold i64;omega)) (⟨stays.box (Eq.refl 8),trivial⟩) rfl rfl) Z<|nA<|lmP Z<|lf 3 ty.F29_3 Z<|loI ty.kd3 Z<|lf 4 ty.F29_4 Z<|loI ty.kd3 Z<|lq (rd (x:=vI _ _) (rd_un rfl rfl (fits_i64 (by have h2:=es.amt;unfold A50 at *;unfold i64;omega))) rfl) ?_
       refine lst (z5a Tryz.func114 (smove_e _ ({ x with circles:=x.circles++[⟨e.key,e.ch,e.to,e.amt,e.fee⟩],chans:=x.chans.set i { c with loc:=c.loc+-addV e.amt e.fee,remote:=c.remote+0 } }) _ _ _ _ _ ((by rw[List.length_set];exact hm)) j d ((chanAt_set (c':={ c with loc:=c.loc+-addV e.amt e.fee,remote:=c.remote+0 }) hc rfl).trans hj) (set_get hd hij _) (by have h1:=hdm.1;unfold A50 at h1;unfold i64;omega) (by have h1:=hdm.2.1;have h2:=es.amt;unfold A50 at *;unfold i64;omega)) (⟨stays.box (Eq.refl 8),trivial⟩) rfl rfl) Z<|nG ?_
       refine AW.obj 1 (AO.arr 40 7 (rowsOf encChan (updC (updC x.chans e.ch fun c=>{ c with loc:=c.loc-addV e.amt e.fee }) e.to fun c=>{ c with remote:=c.remote-e.amt }))) (congrArg (fun l=>AO.arr 40 7 (rowsOf encChan l)) ((by simp only[Int.add_zero,Int.sub_eq_add_neg]:_=((x.chans.set i { c with loc:=c.loc-addV e.amt e.fee }).set j { d with remote:=d.remote-e.amt })).trans (set_two' fi.ids hc hd hid hjd hne (fun c=>{ c with loc:=c.loc-addV e.amt e.fee }) (fun d=>{ d with remote:=d.remote-e.amt }) (fun _=>rfl)))) ?_
       refine sL<|lmP Z<|lf 2 ty.F29_2 Z<|loI ty.kd3 Z<|lmI Z<|lq (rd (x:=vI _ _) (rd_un rfl rfl (fits_i64 (by have h2:A50 (addV e.amt e.fee):=addV_A50 _ _;unfold A50 at *;unfold i64;omega))) rfl) ?_
       refine lst (z5a Tryz.func53 (sline_e _ _ _ _ _ _ _ _ _ _ _ _ _ _ ([]) 0 (LG.nil) (by decide) _ _ _ (Fresh.nil _ _) (rangeA_neg (addV_A50 _ _))) (⟨stays.box (Eq.refl 8),trivial⟩) rfl rfl) Z<|nG<|aL<|lmP Z<|lf 2 ty.F29_2 Z<|loI ty.kd3 Z<|lmI rfl ?_
       refine lst (z5a Tryz.func53 (sline_e _ _ _ _ _ _ _ _ _ _ _ _ _ _ (addL [] 6 e.ch (-addV e.amt e.fee)) 1 (LG.nil.add (rangeA_neg (addV_A50 _ _))) (by decide) _ _ _ ((Fresh.nil _ _).add (.inl (by decide))) (rangeA_of (addV_A50 _ _))) (⟨stays.box (Eq.refl 8),trivial⟩) rfl rfl) Z<|lN ?_
       rw[lauR_yes hy0]
       unfold lauY
       refine end_go ?_ ⟨(Eq.trans (b:=sBox g x.tick x.next x.wallet _) rfl (congrArg (sBox g x.tick x.next x.wallet) (by rw[hA]at hy0;exact hy0))),rfl,rfl,rfl,rfl,trivial⟩
       rfl

def zeroH:Htlc:=⟨0,0,0,0,0,false,0⟩
def zeroI:Circle:=⟨0,0,0,0,0⟩
def fndH(l:List Htlc)(key:Int):Htlc:=(l.find? fun c=>c.key==key).getD zeroH
def fndI(l:List Circle)(key:Int):Circle:=(l.find? fun c=>c.key==key).getD zeroI
abbrev hBox(h:Htlc):AO:=.box 68 none [int h.key,int h.inn,int h.out,int h.amtIn,int h.amtOut,boo h.kept,int h.age]
abbrev iBox(h:Circle):AO:=.box 78 none [int h.key,int h.frm,int h.to,int h.amt,int h.fee]
theorem find_take{α:Type}{g:α→Int}{l:List α}{key:Int}(hnd:l.Pairwise fun a b=>g a≠g b){k:Nat}(hk:k<l.length):(l.take (k+1)).find? (fun c=>g c==key)=if g l[k]=key then some l[k]else (l.take k).find? (fun c=>g c==key):=by
 rw[List.take_succ_eq_append_getElem hk,List.find?_append]
 by_cases q:g l[k]=key
 ·rw[if_pos q]
  have:(l.take k).find? (fun c=>g c==key)=none:=by
   rw[List.find?_eq_none]
   intro x hx
   obtain⟨j,hj,rfl⟩:=List.getElem_of_mem hx
   rw[List.length_take]at hj
   have h1:=List.pairwise_iff_getElem.1 hnd j k (by omega) hk (by omega)
   rw[List.getElem_take,←q]
   simpa using h1
  rw[this];simp[q]
 ·rw[if_neg q];simp[q]
theorem fndH_take{l:List Htlc}{key:Int}(hnd:l.Pairwise fun a b=>a.key≠b.key){k:Nat}(hk:k<l.length):fndH (l.take (k+1)) key=if l[k].key=key then l[k]else fndH (l.take k) key:=by
 unfold fndH
 rw[find_take (g:=fun c=>c.key) hnd hk]
 split<;>rfl
theorem fndI_take{l:List Circle}{key:Int}(hnd:l.Pairwise fun a b=>a.key≠b.key){k:Nat}(hk:k<l.length):fndI (l.take (k+1)) key=if l[k].key=key then l[k]else fndI (l.take k) key:=by
 unfold fndI
 rw[find_take (g:=fun c=>c.key) hnd hk]
 split<;>rfl
theorem delH_take{l:List Htlc}{key:Int}{k:Nat}(hk:k<l.length):delH (l.take (k+1)) key=delH (l.take k) key++(if l[k].key=key then []else [l[k]]):=by
 unfold delH
 rw[List.take_succ_eq_append_getElem hk,List.filter_append]
 by_cases q:l[k].key=key<;>simp[q]
theorem delI_take{l:List Circle}{key:Int}{k:Nat}(hk:k<l.length):delI (l.take (k+1)) key=delI (l.take k) key++(if l[k].key=key then []else [l[k]]):=by
 unfold delI
 rw[List.take_succ_eq_append_getElem hk,List.filter_append]
 by_cases q:l[k].key=key<;>simp[q]
theorem delH_len{l:List Htlc}{key:Int}:(delH l key).length≤l.length:=List.length_filter_le _ _
theorem delI_len{l:List Circle}{key:Int}:(delI l key).length≤l.length:=List.length_filter_le _ _
theorem fndH_no{l:List Htlc}{key:Int}(h0:∀h∈l,h.key≠0)(h:(fndH l key).key=0):l.find? (fun c=>c.key==key)=none:=by
 rcases at_find (fun c:Htlc=>c.key==key) l with⟨_,q⟩|⟨i,c,_,q1,q2,_⟩
 ·exact q
 ·unfold fndH at h
  rw[q2]at h
  exact absurd h (h0 c (mem_of_get q1))
theorem fndH_yes{l:List Htlc}{key:Int}(h:¬(fndH l key).key=0):∃i:Nat,l[i]? = some (fndH l key)∧l.find? (fun c=>c.key==key)=some (fndH l key)∧(fndH l key).key=key:=by
 rcases at_find (fun c:Htlc=>c.key==key) l with⟨_,q⟩|⟨i,c,_,q1,q2,q3⟩
 ·unfold fndH at h
  rw[q]at h
  exact absurd rfl h
 ·have e:fndH l key=c:=by unfold fndH;rw[q2];rfl
  rw[e]
  exact⟨i,q1,q2,by simpa using q3⟩
theorem fndI_no{l:List Circle}{key:Int}(h0:∀h∈l,h.key≠0)(h:(fndI l key).key=0):l.find? (fun c=>c.key==key)=none:=by
 rcases at_find (fun c:Circle=>c.key==key) l with⟨_,q⟩|⟨i,c,_,q1,q2,_⟩
 ·exact q
 ·unfold fndI at h
  rw[q2]at h
  exact absurd h (h0 c (mem_of_get q1))
theorem fndI_yes{l:List Circle}{key:Int}(h:¬(fndI l key).key=0):∃i:Nat,l[i]? = some (fndI l key)∧l.find? (fun c=>c.key==key)=some (fndI l key)∧(fndI l key).key=key:=by
 rcases at_find (fun c:Circle=>c.key==key) l with⟨_,q⟩|⟨i,c,_,q1,q2,q3⟩
 ·unfold fndI at h
  rw[q]at h
  exact absurd rfl h
 ·have e:fndI l key=c:=by unfold fndI;rw[q2];rfl
  rw[e]
  exact⟨i,q1,q2,by simpa using q3⟩
def setK(x:Book)(key:Int)(good:Bool):WR:=match x.htlcs.find? (fun c=>c.key==key)with
 |some h=>setY x good h
 |none=>⟨x,[],15⟩
def landK(x:Book)(key:Int)(good:Bool):WR:=match x.circles.find? (fun c=>c.key==key)with
 |some h=>landY x good h
 |none=>⟨x,[],15⟩
theorem setK_eq(x:Book)(e:Event):setK x e.key (decide (e.kind=6))=setR x e:=rfl
theorem landK_eq(x:Book)(e:Event):landK x e.key (decide (e.kind=10))=landR x e:=rfl
theorem setK_none{x:Book}{key:Int}{good:Bool}(h:x.htlcs.find? (fun c=>c.key==key)=none):setK x key good=⟨x,[],15⟩:=by unfold setK;rw[h]
theorem setK_some{x:Book}{key:Int}{good:Bool}{c:Htlc}(h:x.htlcs.find? (fun c=>c.key==key)=some c):setK x key good=setY x good c:=by unfold setK;rw[h]
theorem landK_none{x:Book}{key:Int}{good:Bool}(h:x.circles.find? (fun c=>c.key==key)=none):landK x key good=⟨x,[],15⟩:=by unfold landK;rw[h]
theorem landK_some{x:Book}{key:Int}{good:Bool}{c:Circle}(h:x.circles.find? (fun c=>c.key==key)=some c):landK x key good=landY x good c:=by unfold landK;rw[h]
theorem sset_e(g:Value)(x:Book)(key:Int)(good:Bool)(fi:BookFi x)(hk0:∀h∈x.htlcs,h.key≠0)(hle:∀h∈x.htlcs,h.amtOut≤h.amtIn):GC Tryz.prog 58 [.ptr 0 0 0,int key,boo good] (sIn g x [] 0) (.tup []) (sOut g (setK x key good)):=by
 have sm:=fi.sm
 have hm:x.chans.length≤1000000000:=by have:=sm.lc;omega
 have hlh:=sm.lh
 have hli:=sm.li

 refine GC.intro (rs:=[]) Tryz.func58 rfl Tryz.ntmps58 (Nat.le_of_ble_eq_true rfl) trivial ?_
 intro L O w0
 refine sL<|lst (zS 2011 [] ty.el24 ty.ze68 rfl (by simp)) Z<|laO Z<|nA<|lq (rd (x:=.agg [vI _ _,vI _ _,vI _ _,vI _ _,vI _ _,vB false,vI _ _]) (rd_build rfl ty.sa68 rfl rfl rfl) rfl)<|lst (zA 2007 ty.ze68 rfl) Z<|lst (zB 2007 ty.co68 ty.inf68 rfl) Z<|nG<|aS<|sL<|lmP Z<|lc Z<|lf 0 ty.F91_0 Z<|lf 4 ty.F27_4 Z<|loO ty.kd24 Z<|lnI ty.sl24 Z<|lmI Z<|nG<|aB ?_
 refine aW [0,1,2,6,7,17,18] [0,1,2,3,4] (D:=Nat) (fun k=>[(19,int (k:Int))]) (fun k=>[(2011,hAr (delH (x.htlcs.take k) key)),(2007,hBox (fndH (x.htlcs.take k) key))]) (fun k=>k≤x.htlcs.length) (fun k=>x.htlcs.length-k) (0) (Nat.zero_le _) ⟨rfl,trivial⟩ ⟨rfl,rfl,trivial⟩ ?_
 intro k hI
 refine sL<|lbB Z<|nG<|aS ?_
 refine AW.cond rfl ?_ ?_
 ·intro h1
  refine aK<|gT<|aS<|aB<|sL ?_
  have hk:k<x.htlcs.length:=by simpa[length_rowsOf]using h1
  refine lq (rj k ty.el24 rfl (by rw[length_rowsOf];exact hk))<|lq (rd (x:=.agg [vI _ _,vI _ _,vI _ _,vI _ _,vI _ _,vB _,vI _ _]) (rd_load_arr rfl ty.kd68 rfl rfl rfl (row_map hk) rfl) rfl)<|lst (zA 2009 ty.ze68 rfl) Z<|lT [0,1,2,6,7,9,17,18,19,22] [0,1,2,3,4,2007,2009,2011] ?_
  refine lst (zB 2009 ty.co68 ty.inf68 Z) Z<|nA<|lf 0 ty.F68_0 Z<|loI ty.kd3 Z<|lmI Z<|lbB Z<|nG ?_
  refine AW.cond rfl ?_ ?_
  ·intro h2
   refine aL<|loX (.agg [vI _ _,vI _ _,vI _ _,vI _ _,vI _ _,vB _,vI _ _]) ty.kd68 Z<|lst (zB 2007 ty.co68 ty.inf68 Z) Z<|lN<|gB<|gT<|aL<|lgI Z<|lmI Z<|nG ?_
   refine⟨k+1,hk,by omega,⟨(iq rfl),trivial⟩,⟨(congrArg hAr (by rw[delH_take hk,if_pos (by simpa using h2),List.append_nil])),(Eq.trans (b:=hBox x.htlcs[k]) rfl (congrArg hBox (by rw[fndH_take fi.hks hk,if_pos (by simpa using h2)]))),trivial⟩,rfl,rfl⟩
  ·intro h2
   refine aL<|lmO Z<|loX (.agg [vI _ _,vI _ _,vI _ _,vI _ _,vI _ _,vB _,vI _ _]) ty.kd68 Z<|lst (zS 2030 (rowsOf encHtlc [x.htlcs[k]]) ty.el24 ty.ze68 rfl) Z<|lst (zP 2011 ty.el24 ty.ze68 ty.by68 rfl (Src.own rfl rfl) (by have:=delH_len (l:=x.htlcs.take k) (key:=key);simp[rowsOf]at *;omega)) Z<|laO Z<|lN<|gB<|gT<|aL<|lgI Z<|lmI Z<|nG ?_
   refine⟨k+1,hk,by omega,⟨(iq rfl),trivial⟩,⟨(Eq.trans (b:=AO.arr 68 7 (rowsOf encHtlc (delH (x.htlcs.take k) key++[x.htlcs[k]]))) (congrArg (AO.arr 68 7) (rowsOf_app encHtlc _ [_]).symm) (congrArg hAr (by rw[delH_take hk,if_neg (by simpa using h2)]))),(congrArg hBox (by rw[fndH_take fi.hks hk,if_neg (by simpa using h2)])),trivial⟩,rfl,rfl⟩
 ·intro h1
  refine aE<|eT<|eT<|eB<|gT<|aS<|aS ?_
  have hke:k=x.htlcs.length:=by have h:=h1;simp only[length_rowsOf,decide_eq_false_iff_not]at h;omega
  refine AW.obj 2011 (hAr (delH x.htlcs key)) (congrArg hAr (by rw[hke,List.take_length])) ?_
  refine AW.obj 2007 (hBox (fndH x.htlcs key)) (congrArg hBox (by rw[hke,List.take_length])) ?_
  refine aL<|lmP Z<|lf 0 ty.F68_0 Z<|loI ty.kd3 Z<|lbB Z ?_
  refine lst (z5a Tryz.func51 (scode_e _ _ _ _ _ _ _ _ _ _ _ _ _ _ _ _ _ _ _ ) (⟨stays.box (Eq.refl 8),trivial⟩) rfl rfl) Z<|lT [0,2,6,7,37] [0,1,2,3,4,2007,2011] ?_
  refine nG ?_
  refine AW.cond rfl ?_ ?_
  ·intro h3
   refine aR<|rT ?_
   have hz:(fndH x.htlcs key).key=0:=by
    have h:=h3
    rcases Classical.em ((fndH x.htlcs key).key=0)with q|q
    ·exact q
    ·rw[decide_eq_false q]at h
     simp[failC]at h
   rw[setK_none (fndH_no hk0 hz)]
   refine end_ret ?_ ⟨Eq.trans (b:=sBox g x.tick x.next x.wallet _) rfl (congrArg (sBox g x.tick x.next x.wallet) (by rw[decide_eq_true hz];rfl)),rfl,rfl,rfl,rfl,trivial⟩
   rfl
  ·intro h3
   refine aK<|gT<|aS ?_
   have hnz:¬(fndH x.htlcs key).key=0:=fun q=>by
    have h:=h3
    rw[decide_eq_true q]at h
    simp[failC]at h
   obtain⟨i,hh,hf,hkk⟩:=fndH_yes hnz
   generalize fndH x.htlcs key=h at *
   subst hkk
   have hhm:=sm.htlcs h (mem_of_get hh)
   obtain⟨ha,hb,hab⟩:=fi.hch h (mem_of_get hh)
   obtain⟨a,c,hac,hc,hao,hcid⟩:=chan_there ha
   obtain⟨b,d,hbd,hd,hbo,hdid⟩:=chan_there hb
   have hcm:=sm.chans c (mem_of_get hc)
   have hdm:=sm.chans d (mem_of_get hd)
   have hne:a≠b:=idx_ne hc hd (by rw[hcid,hdid];exact hab)
   refine AW.obj 0 (sBox g x.tick x.next x.wallet 0) (Eq.trans (b:=sBox g x.tick x.next x.wallet _) rfl (congrArg (sBox g x.tick x.next x.wallet) (by rw[decide_eq_false hnz];rfl))) ?_
   refine aL<|lmP Z<|lmO Z<|lc Z<|lf 0 ty.F91_0 Z<|lf 4 ty.F27_4 Z<|lst (zB 0 ty.co24 ty.inf24 Z) Z<|nG<|aS ?_
   refine AW.swap 2011 2 ?_
   refine aT [0,2,7] [0,1,2,3,4,2007] ?_
   refine aF []<|pq 0 (qmP Z)<|pq 1 (qc Z)<|pq 2 (qf 0 ty.F91_0 Z)<|sq 3 (roX (.agg [vI _ _,vI _ _,vI _ _,.own _,.own _,.own _]) ty.kd27 Z)<|vq 4 (rf 1 ty.F68_1 Z)<|vq 5 (roI ty.kd3 Z)<|vst 6 Z (zL Tryz.func55 (sAt_e ({ x with htlcs:=delH x.htlcs h.key }) _ hm) Z) (.inr Z)<|fsN 49 (a:Int) Z hac<|vq 7 (raI Z)<|fD<|gT<|aS<|sL<|lmB Z<|nG ?_
   refine AW.cond rfl ?_ ?_
   ·intro h4
    refine sL<|lmP Z<|lf 1 ty.F68_1 Z<|loI ty.kd3 Z<|lf 3 ty.F68_3 Z<|loI ty.kd3 Z ?_
    refine lst (z5a Tryz.func114 (smove_e _ ({ x with htlcs:=delH x.htlcs h.key }) _ _ _ _ _ (hm) a c (hac) (hc) (by have h1:=hcm.1;have h2:=hcm.2.1;have h3:=hdm.1;have h4:=hdm.2.1;have h5:=hhm.1;have h6:=hhm.2.1;unfold A50 at *;unfold i64;omega) (by have h1:=hcm.1;have h2:=hcm.2.1;have h3:=hdm.1;have h4:=hdm.2.1;have h5:=hhm.1;have h6:=hhm.2.1;unfold A50 at *;unfold i64;omega)) (⟨stays.box (Eq.refl 8),trivial⟩) rfl rfl) Z<|lT [0,7,10] [0,1,2,3,4,2007] ?_
    refine nA<|lmP Z<|lf 2 ty.F68_2 Z<|loI ty.kd3 Z<|lf 4 ty.F68_4 Z<|loI ty.kd3 Z ?_
    refine lst (z5a Tryz.func114 (smove_e _ ({ x with htlcs:=delH x.htlcs h.key,chans:=x.chans.set a { c with loc:=c.loc+h.amtIn,remote:=c.remote+0 } }) _ _ _ _ _ ((by rw[List.length_set];exact hm)) b d ((chanAt_set (c':={ c with loc:=c.loc+h.amtIn,remote:=c.remote+0 }) hc rfl).trans hbd) (set_get hd hne _) (by have h1:=hcm.1;have h2:=hcm.2.1;have h3:=hdm.1;have h4:=hdm.2.1;have h5:=hhm.1;have h6:=hhm.2.1;unfold A50 at *;unfold i64;omega) (by have h1:=hcm.1;have h2:=hcm.2.1;have h3:=hdm.1;have h4:=hdm.2.1;have h5:=hhm.1;have h6:=hhm.2.1;unfold A50 at *;unfold i64;omega)) (⟨stays.box (Eq.refl 8),trivial⟩) rfl rfl) Z<|nG<|aS<|aF [18]<|pq 0 (qmP rfl)<|pq 1 (qc rfl)<|pq 2 (qf 0 ty.F91_0 rfl)<|pq 3 (qf 3 ty.F27_3 rfl)<|sq 4 (roO ty.kd23 rfl)<|pq 5 (qmX (vI _ _) rfl)<|pq 6 (qmP rfl)<|pq 7 (qc rfl)<|pq 8 (qf 0 ty.F91_0 rfl)<|pq 9 (qf 3 ty.F27_3 rfl)<|sq 10 (roO ty.kd23 rfl)<|vq 11 (rmI rfl)<|vq 12 (rj a ty.el23 rfl (by rw[length_rowsOf,List.length_set,List.length_set];exact(List.getElem?_eq_some_iff.1 hc).1))<|vq 13 (rf 6 ty.F40_6 rfl)<|vq 14 (rd (x:=vI _ _) (rd_load_arr rfl ty.kd3 rfl rfl rfl (rows_some (set_get (set_get_eq hc { c with loc:=c.loc+h.amtIn,remote:=c.remote+0 }) (Ne.symm hne) { d with loc:=d.loc+0,remote:=d.remote+h.amtOut })) rfl) rfl)<|vst 15 rfl (zL Tryz.func115 (sscUp_e _) rfl) (.inr rfl)<|fT [0,7,67,68,78] [0,1,2,3,4,2007] ?_
    refine vq 16 (rj a ty.el23 rfl (by rw[length_rowsOf,List.length_set,List.length_set];exact(List.getElem?_eq_some_iff.1 hc).1))<|vq 17 (rf 6 ty.F40_6 rfl)<|vst 18 rfl (zQ 1 [.v (.int .i64 (scoreUp c.score))] ty.co3 ty.inf3 rfl (rows_some (set_get (set_get_eq hc { c with loc:=c.loc+h.amtIn,remote:=c.remote+0 }) (Ne.symm hne) { d with loc:=d.loc+0,remote:=d.remote+h.amtOut }))) (.inl rfl)<|fD<|gT ?_
    refine AW.obj 1 (AO.arr 40 7 (rowsOf encChan (updC (updC x.chans h.inn fun c=>{ c with loc:=c.loc+h.amtIn,score:=scoreUp c.score }) h.out fun c=>{ c with remote:=c.remote+h.amtOut }))) (Eq.trans (b:=AO.arr 40 7 ((rowsOf encChan ((x.chans.set a { c with loc:=c.loc+h.amtIn,remote:=c.remote+0 }).set b { d with loc:=d.loc+0,remote:=d.remote+h.amtOut })).set a ((encChan { c with loc:=c.loc+h.amtIn,remote:=c.remote+0,score:=scoreUp c.score }).map PV.v))) rfl (congrArg (AO.arr 40 7) (rows_set.trans (congrArg (rowsOf encChan) ((set_three hne).trans ((by simp only[Int.add_zero]:_=(x.chans.set a { c with loc:=c.loc+h.amtIn,score:=scoreUp c.score }).set b { d with remote:=d.remote+h.amtOut }).trans (set_two' fi.ids hc hd hcid hdid hab (fun c=>{ c with loc:=c.loc+h.amtIn,score:=scoreUp c.score }) (fun d=>{ d with remote:=d.remote+h.amtOut }) (fun _=>rfl)))))))) ?_
    refine sL<|lmP Z<|lf 4 ty.F68_4 Z<|loI ty.kd3 Z<|lf 3 ty.F68_3 Z<|loI ty.kd3 Z ?_
    refine lhI rfl ⟨rfl,fits_i64 (by have h1:=hcm.1;have h2:=hcm.2.1;have h3:=hdm.1;have h4:=hdm.2.1;have h5:=hhm.1;have h6:=hhm.2.1;unfold A50 at *;unfold i64;omega)⟩ ?_
    refine lst (z5a Tryz.func53 (sline_e _ _ _ _ _ _ _ _ _ _ _ _ _ _ ([]) 0 (LG.nil) (by decide) _ _ _ (Fresh.nil _ _) (inB_true.2 (by have h5:=hhm.1;have h6:=hhm.2.1;have h7:=hhm.2.2.2.2;have h8:=hle h (mem_of_get hh);unfold A50 at *;omega))) (⟨stays.box (Eq.refl 8),trivial⟩) rfl rfl) Z<|nG<|aL<|lmP Z<|lf 1 ty.F68_1 Z<|loI ty.kd3 Z<|lf 3 ty.F68_3 Z<|loI ty.kd3 rfl ?_
    refine lst (z5a Tryz.func53 (sline_e _ _ _ _ _ _ _ _ _ _ _ _ _ _ (addL [] 3 0 (h.amtOut-h.amtIn)) 1 (LG.nil.add (inB_true.2 (by have h5:=hhm.1;have h6:=hhm.2.1;have h7:=hhm.2.2.2.2;have h8:=hle h (mem_of_get hh);unfold A50 at *;omega))) (by decide) _ _ _ ((Fresh.nil _ _).add (.inl (by decide))) (rangeA_of hhm.1)) (⟨stays.box (Eq.refl 8),trivial⟩) rfl rfl) Z<|lT [0,7] [0,1,2,3,4,2007] ?_
    refine nG<|aL<|lmP Z<|lf 2 ty.F68_2 Z<|loI ty.kd3 Z<|lf 4 ty.F68_4 Z<|loI ty.kd3 Z<|lq (rd (x:=vI _ _) (rd_un rfl rfl (fits_i64 (by have h1:=hcm.1;have h2:=hcm.2.1;have h3:=hdm.1;have h4:=hdm.2.1;have h5:=hhm.1;have h6:=hhm.2.1;unfold A50 at *;unfold i64;omega))) rfl) ?_
    refine lst (z5a Tryz.func53 (sline_e _ _ _ _ _ _ _ _ _ _ _ _ _ _ (addL (addL [] 3 0 (h.amtOut-h.amtIn)) 6 h.inn h.amtIn) 2 ((LG.nil.add (inB_true.2 (by have h5:=hhm.1;have h6:=hhm.2.1;have h7:=hhm.2.2.2.2;have h8:=hle h (mem_of_get hh);unfold A50 at *;omega))).add (rangeA_of hhm.1)) (by decide) _ _ _ (((Fresh.nil _ _).add (.inl (by decide))).add (.inl (by decide))) (rangeA_neg hhm.2.1)) (⟨stays.box (Eq.refl 8),trivial⟩) rfl rfl) Z<|lN ?_
    rw[setK_some hf,show good=true from h4]
    unfold setY
    refine end_go ?_ ⟨rfl,rfl,rfl,rfl,rfl,trivial⟩
    rfl
   ·intro h4
    refine sL<|lmP Z<|lf 1 ty.F68_1 Z<|loI ty.kd3 Z<|lf 3 ty.F68_3 Z<|loI ty.kd3 Z ?_
    refine lst (z5a Tryz.func114 (smove_e _ ({ x with htlcs:=delH x.htlcs h.key }) _ _ _ _ _ (hm) a c (hac) (hc) (by have h1:=hcm.1;have h2:=hcm.2.1;have h3:=hdm.1;have h4:=hdm.2.1;have h5:=hhm.1;have h6:=hhm.2.1;unfold A50 at *;unfold i64;omega) (by have h1:=hcm.1;have h2:=hcm.2.1;have h3:=hdm.1;have h4:=hdm.2.1;have h5:=hhm.1;have h6:=hhm.2.1;unfold A50 at *;unfold i64;omega)) (⟨stays.box (Eq.refl 8),trivial⟩) rfl rfl) Z<|nA<|lmP Z<|lf 2 ty.F68_2 Z<|loI ty.kd3 Z<|lf 4 ty.F68_4 Z<|loI ty.kd3 rfl ?_
    refine lst (z5a Tryz.func114 (smove_e _ ({ x with htlcs:=delH x.htlcs h.key,chans:=x.chans.set a { c with loc:=c.loc+0,remote:=c.remote+h.amtIn } }) _ _ _ _ _ ((by rw[List.length_set];exact hm)) b d ((chanAt_set (c':={ c with loc:=c.loc+0,remote:=c.remote+h.amtIn }) hc rfl).trans hbd) (set_get hd hne _) (by have h1:=hcm.1;have h2:=hcm.2.1;have h3:=hdm.1;have h4:=hdm.2.1;have h5:=hhm.1;have h6:=hhm.2.1;unfold A50 at *;unfold i64;omega) (by have h1:=hcm.1;have h2:=hcm.2.1;have h3:=hdm.1;have h4:=hdm.2.1;have h5:=hhm.1;have h6:=hhm.2.1;unfold A50 at *;unfold i64;omega)) (⟨stays.box (Eq.refl 8),trivial⟩) rfl rfl) Z<|lT [0,7,10] [0,1,2,3,4,2007] ?_
    refine nG<|aS<|aF [18]<|pq 0 (qmP rfl)<|pq 1 (qc rfl)<|pq 2 (qf 0 ty.F91_0 rfl)<|pq 3 (qf 3 ty.F27_3 rfl)<|sq 4 (roO ty.kd23 rfl)<|pq 5 (qmX (vI _ _) rfl)<|pq 6 (qmP rfl)<|pq 7 (qc rfl)<|pq 8 (qf 0 ty.F91_0 rfl)<|pq 9 (qf 3 ty.F27_3 rfl)<|sq 10 (roO ty.kd23 rfl)<|vq 11 (rmI rfl)<|vq 12 (rj a ty.el23 rfl (by rw[length_rowsOf,List.length_set,List.length_set];exact(List.getElem?_eq_some_iff.1 hc).1))<|vq 13 (rf 6 ty.F40_6 rfl)<|vq 14 (rd (x:=vI _ _) (rd_load_arr rfl ty.kd3 rfl rfl rfl (rows_some (set_get (set_get_eq hc { c with loc:=c.loc+0,remote:=c.remote+h.amtIn }) (Ne.symm hne) { d with loc:=d.loc+h.amtOut,remote:=d.remote+0 })) rfl) rfl)<|vst 15 rfl (zL Tryz.func116 (sscDown_e _) rfl) (.inr rfl)<|fT [0,7,110,111,121] [0,1,2,3,4,2007] ?_
    refine vq 16 (rj a ty.el23 rfl (by rw[length_rowsOf,List.length_set,List.length_set];exact(List.getElem?_eq_some_iff.1 hc).1))<|vq 17 (rf 6 ty.F40_6 rfl)<|vst 18 rfl (zQ 1 [.v (.int .i64 (scoreDown c.score))] ty.co3 ty.inf3 rfl (rows_some (set_get (set_get_eq hc { c with loc:=c.loc+0,remote:=c.remote+h.amtIn }) (Ne.symm hne) { d with loc:=d.loc+h.amtOut,remote:=d.remote+0 }))) (.inl rfl)<|fD<|gT ?_
    refine AW.obj 1 (AO.arr 40 7 (rowsOf encChan (updC (updC x.chans h.inn fun c=>{ c with remote:=c.remote+h.amtIn,score:=scoreDown c.score }) h.out fun c=>{ c with loc:=c.loc+h.amtOut }))) (Eq.trans (b:=AO.arr 40 7 ((rowsOf encChan ((x.chans.set a { c with loc:=c.loc+0,remote:=c.remote+h.amtIn }).set b { d with loc:=d.loc+h.amtOut,remote:=d.remote+0 })).set a ((encChan { c with loc:=c.loc+0,remote:=c.remote+h.amtIn,score:=scoreDown c.score }).map PV.v))) rfl (congrArg (AO.arr 40 7) (rows_set.trans (congrArg (rowsOf encChan) ((set_three hne).trans ((by simp only[Int.add_zero]:_=(x.chans.set a { c with remote:=c.remote+h.amtIn,score:=scoreDown c.score }).set b { d with loc:=d.loc+h.amtOut }).trans (set_two' fi.ids hc hd hcid hdid hab (fun c=>{ c with remote:=c.remote+h.amtIn,score:=scoreDown c.score }) (fun d=>{ d with loc:=d.loc+h.amtOut }) (fun _=>rfl)))))))) ?_
    refine aL<|lmP Z<|lf 2 ty.F68_2 Z<|loI ty.kd3 Z<|lf 4 ty.F68_4 Z<|loI ty.kd3 Z ?_
    refine lst (z5a Tryz.func53 (sline_e _ _ _ _ _ _ _ _ _ _ _ _ _ _ ([]) 0 (LG.nil) (by decide) _ _ _ (Fresh.nil _ _) (rangeA_of hhm.2.1)) (⟨stays.box (Eq.refl 8),trivial⟩) rfl rfl) Z<|nG<|aL<|lmP Z<|lf 2 ty.F68_2 Z<|loI ty.kd3 Z<|lf 4 ty.F68_4 Z<|loI ty.kd3 Z<|lq (rd (x:=vI _ _) (rd_un rfl rfl (fits_i64 (by have h1:=hcm.1;have h2:=hcm.2.1;have h3:=hdm.1;have h4:=hdm.2.1;have h5:=hhm.1;have h6:=hhm.2.1;unfold A50 at *;unfold i64;omega))) rfl) ?_
    refine lst (z5a Tryz.func53 (sline_e _ _ _ _ _ _ _ _ _ _ _ _ _ _ (addL [] 6 h.out h.amtOut) 1 (LG.nil.add (rangeA_of hhm.2.1)) (by decide) _ _ _ ((Fresh.nil _ _).add (.inl (by decide))) (rangeA_neg hhm.2.1)) (⟨stays.box (Eq.refl 8),trivial⟩) rfl rfl) Z<|lT [] [0,1,2,3,4,2007] ?_
    refine lN ?_
    rw[setK_some hf,show good=false from h4]
    unfold setY
    refine end_go ?_ ⟨rfl,rfl,rfl,rfl,rfl,trivial⟩
    rfl
theorem sland_e(g:Value)(x:Book)(key:Int)(good:Bool)(fi:BookFi x)(hk0:∀h∈x.circles,h.key≠0)(hle:∀h∈x.circles,0≤h.amt∧0≤h.fee∧h.amt+h.fee≤1125899906842624):GC Tryz.prog 61 [.ptr 0 0 0,int key,boo good] (sIn g x [] 0) (.tup []) (sOut g (landK x key good)):=by
 have sm:=fi.sm
 have hm:x.chans.length≤1000000000:=by have:=sm.lc;omega
 have hlh:=sm.lh
 have hli:=sm.li

 refine GC.intro (rs:=[]) Tryz.func61 rfl Tryz.ntmps61 (Nat.le_of_ble_eq_true rfl) trivial ?_
 intro L O w0
 refine sL<|lst (zS 2011 [] ty.el25 ty.ze78 rfl (by simp)) Z<|laO Z<|nA<|lq (rd (x:=.agg [vI _ _,vI _ _,vI _ _,vI _ _,vI _ _]) (rd_build rfl ty.sa78 rfl rfl rfl) rfl)<|lst (zA 2007 ty.ze78 rfl) Z<|lst (zB 2007 ty.co78 ty.inf78 rfl) Z<|nG<|aS<|sL<|lmP Z<|lc Z<|lf 0 ty.F91_0 Z<|lf 5 ty.F27_5 Z<|loO ty.kd25 Z<|lnI ty.sl25 Z<|lmI Z<|nG<|aB ?_
 refine aW [0,1,2,6,7,17,18] [0,1,2,3,4] (D:=Nat) (fun k=>[(19,int (k:Int))]) (fun k=>[(2011,iAr (delI (x.circles.take k) key)),(2007,iBox (fndI (x.circles.take k) key))]) (fun k=>k≤x.circles.length) (fun k=>x.circles.length-k) (0) (Nat.zero_le _) ⟨rfl,trivial⟩ ⟨rfl,rfl,trivial⟩ ?_
 intro k hI
 refine sL<|lbB Z<|nG<|aS ?_
 refine AW.cond rfl ?_ ?_
 ·intro h1
  refine aK<|gT<|aS<|aB<|sL ?_
  have hk:k<x.circles.length:=by simpa[length_rowsOf]using h1
  refine lq (rj k ty.el25 rfl (by rw[length_rowsOf];exact hk))<|lq (rd (x:=.agg [vI _ _,vI _ _,vI _ _,vI _ _,vI _ _]) (rd_load_arr rfl ty.kd78 rfl rfl rfl (row_map hk) rfl) rfl)<|lst (zA 2009 ty.ze78 rfl) Z<|lT [0,1,2,6,7,9,17,18,19,22] [0,1,2,3,4,2007,2009,2011] ?_
  refine lst (zB 2009 ty.co78 ty.inf78 Z) Z<|nA<|lf 0 ty.F78_0 Z<|loI ty.kd3 Z<|lmI Z<|lbB Z<|nG ?_
  refine AW.cond rfl ?_ ?_
  ·intro h2
   refine aL<|loX (.agg [vI _ _,vI _ _,vI _ _,vI _ _,vI _ _]) ty.kd78 Z<|lst (zB 2007 ty.co78 ty.inf78 Z) Z<|lN<|gB<|gT<|aL<|lgI Z<|lmI Z<|nG ?_
   refine⟨k+1,hk,by omega,⟨(iq rfl),trivial⟩,⟨(congrArg iAr (by rw[delI_take hk,if_pos (by simpa using h2),List.append_nil])),(Eq.trans (b:=iBox x.circles[k]) rfl (congrArg iBox (by rw[fndI_take fi.iks hk,if_pos (by simpa using h2)]))),trivial⟩,rfl,rfl⟩
  ·intro h2
   refine aL<|lmO Z<|loX (.agg [vI _ _,vI _ _,vI _ _,vI _ _,vI _ _]) ty.kd78 Z<|lst (zS 2030 (rowsOf encCircle [x.circles[k]]) ty.el25 ty.ze78 rfl) Z<|lst (zP 2011 ty.el25 ty.ze78 ty.by78 rfl (Src.own rfl rfl) (by have:=delI_len (l:=x.circles.take k) (key:=key);simp[rowsOf]at *;omega)) Z<|laO Z<|lN<|gB<|gT<|aL<|lgI Z<|lmI Z<|nG ?_
   refine⟨k+1,hk,by omega,⟨(iq rfl),trivial⟩,⟨(Eq.trans (b:=AO.arr 78 5 (rowsOf encCircle (delI (x.circles.take k) key++[x.circles[k]]))) (congrArg (AO.arr 78 5) (rowsOf_app encCircle _ [_]).symm) (congrArg iAr (by rw[delI_take hk,if_neg (by simpa using h2)]))),(congrArg iBox (by rw[fndI_take fi.iks hk,if_neg (by simpa using h2)])),trivial⟩,rfl,rfl⟩
 ·intro h1
  refine aE<|eT<|eT<|eB<|gT<|aS<|aS ?_
  have hke:k=x.circles.length:=by have h:=h1;simp only[length_rowsOf,decide_eq_false_iff_not]at h;omega
  refine AW.obj 2011 (iAr (delI x.circles key)) (congrArg iAr (by rw[hke,List.take_length])) ?_
  refine AW.obj 2007 (iBox (fndI x.circles key)) (congrArg iBox (by rw[hke,List.take_length])) ?_
  refine aL<|lmP Z<|lf 0 ty.F78_0 Z<|loI ty.kd3 Z<|lbB Z ?_
  refine lst (z5a Tryz.func51 (scode_e _ _ _ _ _ _ _ _ _ _ _ _ _ _ _ _ _ _ _ ) (⟨stays.box (Eq.refl 8),trivial⟩) rfl rfl) Z<|lT [0,2,6,7,37] [0,1,2,3,4,2007,2011] ?_
  refine nG ?_
  refine AW.cond rfl ?_ ?_
  ·intro h3
   refine aR<|rT ?_
   have hz:(fndI x.circles key).key=0:=by
    have h:=h3
    rcases Classical.em ((fndI x.circles key).key=0)with q|q
    ·exact q
    ·rw[decide_eq_false q]at h
     simp[failC]at h
   rw[landK_none (fndI_no hk0 hz)]
   refine end_ret ?_ ⟨Eq.trans (b:=sBox g x.tick x.next x.wallet _) rfl (congrArg (sBox g x.tick x.next x.wallet) (by rw[decide_eq_true hz];rfl)),rfl,rfl,rfl,rfl,trivial⟩
   rfl
  ·intro h3
   refine aK<|gT<|aS ?_
   have hnz:¬(fndI x.circles key).key=0:=fun q=>by
    have h:=h3
    rw[decide_eq_true q]at h
    simp[failC]at h
   obtain⟨i,hh,hf,hkk⟩:=fndI_yes hnz
   generalize fndI x.circles key=h at *
   subst hkk
   have hhm:=sm.circles h (mem_of_get hh)
   obtain⟨ha,hb,hab⟩:=fi.ich h (mem_of_get hh)
   obtain⟨a,c,hac,hc,hao,hcid⟩:=chan_there ha
   obtain⟨b,d,hbd,hd,hbo,hdid⟩:=chan_there hb
   have hcm:=sm.chans c (mem_of_get hc)
   have hdm:=sm.chans d (mem_of_get hd)
   have hne:a≠b:=idx_ne hc hd (by rw[hcid,hdid];exact hab)
   refine AW.obj 0 (sBox g x.tick x.next x.wallet 0) (Eq.trans (b:=sBox g x.tick x.next x.wallet _) rfl (congrArg (sBox g x.tick x.next x.wallet) (by rw[decide_eq_false hnz];rfl))) ?_
   refine aL<|lmP Z<|lmO Z<|lc Z<|lf 0 ty.F91_0 Z<|lf 5 ty.F27_5 Z<|lst (zB 0 ty.co25 ty.inf25 Z) Z<|nG<|aS ?_
   refine AW.swap 2011 3 ?_
   refine aT [0,2,7] [0,1,2,3,4,2007] ?_
   refine aL<|lf 3 ty.F78_3 Z<|loI ty.kd3 Z<|lf 4 ty.F78_4 Z<|loI ty.kd3 Z ?_
   refine lhI rfl ⟨rfl,fits_i64 (by have h9:=hle h (mem_of_get hh);unfold i64;omega)⟩<|laI Z<|nG<|aS<|sL<|lmB Z<|nG ?_
   refine AW.cond rfl ?_ ?_
   ·intro h4
    refine sL<|lmP Z<|lf 1 ty.F78_1 Z<|loI ty.kd3 Z<|lmI Z ?_
    refine lst (z5a Tryz.func114 (smove_e _ ({ x with circles:=delI x.circles h.key }) _ _ _ _ _ (hm) a c (hac) (hc) (by have h1:=hcm.1;have h2:=hcm.2.1;have h3:=hdm.1;have h4:=hdm.2.1;have h5:=hhm.1;have h6:=hhm.2;unfold A50 at *;unfold i64;omega) (by have h1:=hcm.1;have h2:=hcm.2.1;have h3:=hdm.1;have h4:=hdm.2.1;have h5:=hhm.1;have h6:=hhm.2;unfold A50 at *;unfold i64;omega)) (⟨stays.box (Eq.refl 8),trivial⟩) rfl rfl) Z<|nA<|lmP Z<|lf 2 ty.F78_2 Z<|loI ty.kd3 Z<|lf 3 ty.F78_3 Z<|loI ty.kd3 rfl ?_
    refine lst (z5a Tryz.func114 (smove_e _ ({ x with circles:=delI x.circles h.key,chans:=x.chans.set a { c with loc:=c.loc+0,remote:=c.remote+(h.amt+h.fee) } }) _ _ _ _ _ ((by rw[List.length_set];exact hm)) b d ((chanAt_set (c':={ c with loc:=c.loc+0,remote:=c.remote+(h.amt+h.fee) }) hc rfl).trans hbd) (set_get hd hne _) (by have h1:=hcm.1;have h2:=hcm.2.1;have h3:=hdm.1;have h4:=hdm.2.1;have h5:=hhm.1;have h6:=hhm.2;unfold A50 at *;unfold i64;omega) (by have h1:=hcm.1;have h2:=hcm.2.1;have h3:=hdm.1;have h4:=hdm.2.1;have h5:=hhm.1;have h6:=hhm.2;unfold A50 at *;unfold i64;omega)) (⟨stays.box (Eq.refl 8),trivial⟩) rfl rfl) Z<|lT [0,7,10] [0,1,2,3,4,2007] ?_
    refine nG ?_
    refine AW.obj 1 (AO.arr 40 7 (rowsOf encChan (updC (updC x.chans h.frm fun c=>{ c with remote:=c.remote+(h.amt+h.fee) }) h.to fun c=>{ c with loc:=c.loc+h.amt }))) (congrArg (fun l=>AO.arr 40 7 (rowsOf encChan l)) ((by simp only[Int.add_zero]:_=(x.chans.set a { c with remote:=c.remote+(h.amt+h.fee) }).set b { d with loc:=d.loc+h.amt }).trans (set_two' fi.ids hc hd hcid hdid hab (fun c=>{ c with remote:=c.remote+(h.amt+h.fee) }) (fun d=>{ d with loc:=d.loc+h.amt }) (fun _=>rfl)))) ?_
    refine sL<|lmP Z<|lf 4 ty.F78_4 Z<|loI ty.kd3 Z ?_
    refine lst (z5a Tryz.func53 (sline_e _ _ _ _ _ _ _ _ _ _ _ _ _ _ ([]) 0 (LG.nil) (by decide) _ _ _ (Fresh.nil _ _) (inB_true.2 (by have h9:=hle h (mem_of_get hh);omega))) (⟨stays.box (Eq.refl 8),trivial⟩) rfl rfl) Z<|nG<|aL<|lmP Z<|lf 2 ty.F78_2 Z<|loI ty.kd3 Z<|lf 3 ty.F78_3 Z<|loI ty.kd3 rfl ?_
    refine lst (z5a Tryz.func53 (sline_e _ _ _ _ _ _ _ _ _ _ _ _ _ _ (addL [] 4 0 h.fee) 1 (LG.nil.add (inB_true.2 (by have h9:=hle h (mem_of_get hh);omega))) (by decide) _ _ _ ((Fresh.nil _ _).add (.inl (by decide))) (inB_true.2 (by have h9:=hle h (mem_of_get hh);omega))) (⟨stays.box (Eq.refl 8),trivial⟩) rfl rfl) Z<|nG<|aL<|lmP Z<|lf 1 ty.F78_1 Z<|loI ty.kd3 Z<|lmI Z<|lq (rd (x:=vI _ _) (rd_un rfl rfl (fits_i64 (by have h9:=hle h (mem_of_get hh);unfold i64;omega))) rfl)<|lsN 90 (-h.amt-h.fee) rfl (by omega) ?_
    refine lst (z5a Tryz.func53 (sline_e _ _ _ _ _ _ _ _ _ _ _ _ _ _ (addL (addL [] 4 0 h.fee) 6 h.to h.amt) 2 ((LG.nil.add (inB_true.2 (by have h9:=hle h (mem_of_get hh);omega))).add (inB_true.2 (by have h9:=hle h (mem_of_get hh);omega))) (by decide) _ _ _ (((Fresh.nil _ _).add (.inl (by decide))).add (.inl (by decide))) (inB_true.2 (by have h9:=hle h (mem_of_get hh);omega))) (⟨stays.box (Eq.refl 8),trivial⟩) rfl rfl) Z<|lT [] [0,1,2,3,4,2007] ?_
    refine lN ?_
    rw[landK_some hf,show good=true from h4]
    unfold landY
    refine end_go ?_ ⟨rfl,rfl,rfl,rfl,rfl,trivial⟩
    rfl
   ·intro h4
    refine sL<|lmP Z<|lf 1 ty.F78_1 Z<|loI ty.kd3 Z<|lmI Z ?_
    refine lst (z5a Tryz.func114 (smove_e _ ({ x with circles:=delI x.circles h.key }) _ _ _ _ _ (hm) a c (hac) (hc) (by have h1:=hcm.1;have h2:=hcm.2.1;have h3:=hdm.1;have h4:=hdm.2.1;have h5:=hhm.1;have h6:=hhm.2;unfold A50 at *;unfold i64;omega) (by have h1:=hcm.1;have h2:=hcm.2.1;have h3:=hdm.1;have h4:=hdm.2.1;have h5:=hhm.1;have h6:=hhm.2;unfold A50 at *;unfold i64;omega)) (⟨stays.box (Eq.refl 8),trivial⟩) rfl rfl) Z<|nA<|lmP Z<|lf 2 ty.F78_2 Z<|loI ty.kd3 Z<|lf 3 ty.F78_3 Z<|loI ty.kd3 rfl ?_
    refine lst (z5a Tryz.func114 (smove_e _ ({ x with circles:=delI x.circles h.key,chans:=x.chans.set a { c with loc:=c.loc+(h.amt+h.fee),remote:=c.remote+0 } }) _ _ _ _ _ ((by rw[List.length_set];exact hm)) b d ((chanAt_set (c':={ c with loc:=c.loc+(h.amt+h.fee),remote:=c.remote+0 }) hc rfl).trans hbd) (set_get hd hne _) (by have h1:=hcm.1;have h2:=hcm.2.1;have h3:=hdm.1;have h4:=hdm.2.1;have h5:=hhm.1;have h6:=hhm.2;unfold A50 at *;unfold i64;omega) (by have h1:=hcm.1;have h2:=hcm.2.1;have h3:=hdm.1;have h4:=hdm.2.1;have h5:=hhm.1;have h6:=hhm.2;unfold A50 at *;unfold i64;omega)) (⟨stays.box (Eq.refl 8),trivial⟩) rfl rfl) Z<|nG ?_
    refine AW.obj 1 (AO.arr 40 7 (rowsOf encChan (updC (updC x.chans h.frm fun c=>{ c with loc:=c.loc+(h.amt+h.fee) }) h.to fun c=>{ c with remote:=c.remote+h.amt }))) (congrArg (fun l=>AO.arr 40 7 (rowsOf encChan l)) ((by simp only[Int.add_zero]:_=(x.chans.set a { c with loc:=c.loc+(h.amt+h.fee) }).set b { d with remote:=d.remote+h.amt }).trans (set_two' fi.ids hc hd hcid hdid hab (fun c=>{ c with loc:=c.loc+(h.amt+h.fee) }) (fun d=>{ d with remote:=d.remote+h.amt }) (fun _=>rfl)))) ?_
    refine aL<|lmP Z<|lf 1 ty.F78_1 Z<|loI ty.kd3 Z<|lmI Z ?_
    refine lst (z5a Tryz.func53 (sline_e _ _ _ _ _ _ _ _ _ _ _ _ _ _ ([]) 0 (LG.nil) (by decide) _ _ _ (Fresh.nil _ _) (inB_true.2 (by have h9:=hle h (mem_of_get hh);omega))) (⟨stays.box (Eq.refl 8),trivial⟩) rfl rfl) Z<|lT [0,7,10] [0,1,2,3,4,2007] ?_
    refine nG<|aL<|lmP Z<|lf 1 ty.F78_1 Z<|loI ty.kd3 Z<|lmI Z<|lq (rd (x:=vI _ _) (rd_un rfl rfl (fits_i64 (by have h9:=hle h (mem_of_get hh);unfold i64;omega))) rfl)<|lsN 90 (-h.amt-h.fee) rfl (by omega) ?_
    refine lst (z5a Tryz.func53 (sline_e _ _ _ _ _ _ _ _ _ _ _ _ _ _ (addL [] 6 h.frm (h.amt+h.fee)) 1 (LG.nil.add (inB_true.2 (by have h9:=hle h (mem_of_get hh);omega))) (by decide) _ _ _ ((Fresh.nil _ _).add (.inl (by decide))) (inB_true.2 (by have h9:=hle h (mem_of_get hh);omega))) (⟨stays.box (Eq.refl 8),trivial⟩) rfl rfl) Z<|lN ?_
    rw[landK_some hf,show good=false from h4]
    unfold landY
    refine end_go ?_ ⟨rfl,rfl,rfl,rfl,rfl,trivial⟩
    rfl
theorem stick_e(g:Value)(x:Book)(sm:BookSm x)(ht:x.tick≠1125899906842624):GC Tryz.prog 59 [.ptr 0 0 0] (sIn g x [] 0) (.tup []) (sOut g (tickR x)):=by
 have bh:=sm.lh
 have bc:=sm.lc
 refine GC.intro (rs:=[]) Tryz.func59 rfl Tryz.ntmps59 (Nat.le_of_ble_eq_true rfl) trivial ?_
 intro L O w0
 refine aS<|sL<|lmP Z<|lmP Z<|lc Z<|lf 0 ty.F91_0 Z<|lf 0 ty.F27_0 Z<|loI ty.kd3 Z<|lbB Z<|lsB 10 false rfl (by simpa using ht) ?_
 refine lst (z5a Tryz.func51 (scode_e _ _ _ _ _ _ _ _ _ _ _ _ _ _ _ _ _ _ _ ) (⟨stays.box (Eq.refl 8),trivial⟩) rfl rfl) Z<|lsB 11 false rfl (by rfl)<|nG<|aN Z<|aK<|gT<|aS ?_
 refine AW.obj 0 (sBox g x.tick x.next x.wallet 0) rfl ?_
 refine aL<|lmP Z<|lc Z<|lf 0 ty.F91_0 Z<|lf 0 ty.F27_0 Z<|loI ty.kd3 Z ?_
 refine lhI rfl ⟨rfl,fits_i64 (by have:=sm.tick;unfold A50 at this;unfold i64;omega)⟩<|lc Z<|lf 0 ty.F91_0 Z<|lf 0 ty.F27_0 Z<|lst (zB 0 ty.co3 ty.inf3 rfl) Z<|lT [0] [0,1,2,3,4] ?_
 refine nG<|aS<|sL<|lmP Z<|lc Z<|lf 0 ty.F91_0 Z<|lf 4 ty.F27_4 Z<|loO ty.kd24 Z<|lnI ty.sl24 Z<|lmI Z<|nG<|aB ?_
 refine aW [0,26] [0,1,3,4] (D:=Nat) (fun k=>[(27,int (k:Int))]) (fun k=>[(2,hAr (mapTo ageH k x.htlcs))]) (fun k=>k≤x.htlcs.length) (fun k=>x.htlcs.length-k) (0) (Nat.zero_le _) ⟨rfl,trivial⟩ ⟨(congrArg hAr (mapTo_zero ageH x.htlcs).symm),trivial⟩ ?_
 intro k hI
 refine sL<|lbB Z<|nG<|aS ?_
 refine AW.cond rfl ?_ ?_
 ·intro h1
  refine aK<|gT<|aS<|aB<|sL<|lmI Z<|laI Z<|nA<|lmP Z<|lc Z<|lf 0 ty.F91_0 Z<|lf 4 ty.F27_4 Z<|loO ty.kd24 Z<|lmI Z ?_
  have hk:k<x.htlcs.length:=by simpa[length_rowsOf]using h1
  have hhm:=sm.htlcs _ (List.getElem_mem hk)
  refine lq (rj k ty.el24 rfl (by rw[length_rowsOf,mapTo_len _ _ _ (Nat.le_of_lt hk)];exact hk))<|lf 6 ty.F68_6 Z<|lq (rd (x:=vI _ _) (rd_load_arr rfl ty.kd3 rfl rfl rfl (rows_some (mapTo_get ageH hk)) rfl) rfl)<|lbB Z<|nG ?_
  refine AW.cond rfl ?_ ?_
  ·intro h2
   refine aL<|lmP Z<|lc Z<|lf 0 ty.F91_0 Z<|lf 4 ty.F27_4 Z<|loO ty.kd24 Z<|lmI Z<|lq (rj k ty.el24 rfl (by rw[length_rowsOf,mapTo_len _ _ _ (Nat.le_of_lt hk)];exact hk))<|lf 6 ty.F68_6 Z<|lq (rd (x:=vI _ _) (rd_load_arr rfl ty.kd3 rfl rfl rfl (rows_some (mapTo_get ageH hk)) rfl) rfl) ?_
   refine lhI rfl ⟨rfl,fits_i64 (by have:=hhm.2.2.1;have:=hhm.2.2.2.1;unfold i64;omega)⟩<|lT [0,26,27,44,45,49] [0,1,2,3,4] ?_
   refine lq (rj k ty.el24 rfl (by rw[length_rowsOf,mapTo_len _ _ _ (Nat.le_of_lt hk)];exact hk))<|lf 6 ty.F68_6 Z<|lst (zQ 2 [.v (.int .i64 (x.htlcs[k].age+1))] ty.co3 ty.inf3 rfl (rows_some (mapTo_get ageH hk))) Z<|lN<|gB<|gT ?_
   refine AW.obj 2 (hAr (mapTo ageH (k+1) x.htlcs)) (Eq.trans (b:=AO.arr 68 7 ((rowsOf encHtlc (mapTo ageH k x.htlcs)).set k ((encHtlc { x.htlcs[k]with age:=x.htlcs[k].age+1 }).map PV.v))) rfl (congrArg (AO.arr 68 7) (rows_set.trans (congrArg (rowsOf encHtlc) (by rw[←mapTo_set _ hk];unfold ageH;rw[show min (x.htlcs[k].age+1) 1125899906842624=x.htlcs[k].age+1 by have h:=h2;simp only[decide_eq_true_eq]at h;omega]))))) ?_
   refine aL<|lgI Z<|lmI Z<|nG ?_
   refine⟨k+1,hk,by omega,⟨(iq rfl),trivial⟩,⟨rfl,trivial⟩,rfl,rfl⟩
  ·intro h2
   refine aK<|gB<|gT<|aL<|lgI Z<|lmI Z<|nG ?_
   refine⟨k+1,hk,by omega,⟨(iq rfl),trivial⟩,⟨(congrArg hAr (mapTo_skip ageH hk (by have h:=h2;have q:=hhm.2.2.2.1;simp only[decide_eq_false_iff_not]at h;unfold ageH;rw[show min (x.htlcs[k].age+1) 1125899906842624=x.htlcs[k].age by omega]))),trivial⟩,rfl,rfl⟩
 ·intro h1
  refine aE<|eT<|eT<|eB<|gA<|lmP Z<|lc Z<|lf 0 ty.F91_0 Z<|lf 3 ty.F27_3 Z<|loO ty.kd23 Z<|lnI ty.sl23 Z<|lmI Z<|nG<|aB ?_
  have hkeh:k=x.htlcs.length:=by have h:=h1;simp only[length_rowsOf,decide_eq_false_iff_not]at h;omega
  refine AW.obj 2 (hAr (x.htlcs.map ageH)) (congrArg hAr (by rw[hkeh,mapTo_all])) ?_
  refine aW [0,58] [0,2,3,4] (D:=Nat) (fun j=>[(59,int (j:Int))]) (fun j=>[(1,.arr 40 7 (rowsOf encChan (mapTo (fadeC x.tick) j x.chans)))]) (fun j=>j≤x.chans.length) (fun j=>x.chans.length-j) (0) (Nat.zero_le _) ⟨rfl,trivial⟩ ⟨(congrArg (fun l=>AO.arr 40 7 (rowsOf encChan l)) (mapTo_zero (fadeC x.tick) x.chans).symm),trivial⟩ ?_
  intro j hI
  refine sL<|lbB Z<|nG<|aS ?_
  refine AW.cond rfl ?_ ?_
  ·intro h3
   refine aK<|gT<|aS<|aB<|sL ?_
   have hj:j<x.chans.length:=by simpa[length_rowsOf]using h3
   have hcm:=sm.chans _ (List.getElem_mem hj)
   refine lmI Z<|laI Z<|nA<|lmP Z<|lc Z<|lf 0 ty.F91_0 Z<|lf 0 ty.F27_0 Z<|loI ty.kd3 Z ?_
   refine lhI rfl ⟨rfl,by decide⟩<|lbB Z<|nG ?_
   refine AW.cond rfl ?_ ?_
   ·intro h4
    refine aF [18]<|pq 0 (qmP Z)<|pq 1 (qc Z)<|pq 2 (qf 0 ty.F91_0 Z)<|pq 3 (qf 3 ty.F27_3 Z)<|sq 4 (roO ty.kd23 Z)<|pq 5 (qmX (vI _ _) Z)<|fT [0,3,58,59,73,74] [0,1,2,3,4] ?_
    refine pq 6 (qmP rfl)<|pq 7 (qc rfl)<|pq 8 (qf 0 ty.F91_0 rfl)<|pq 9 (qf 3 ty.F27_3 rfl)<|sq 10 (roO ty.kd23 rfl)<|vq 11 (rmI rfl)<|vq 12 (rj j ty.el23 rfl (by rw[length_rowsOf,mapTo_len _ _ _ (Nat.le_of_lt hj)];exact hj))<|vq 13 (rf 6 ty.F40_6 rfl)<|vq 14 (rd (x:=vI _ _) (rd_load_arr rfl ty.kd3 rfl rfl rfl (rows_some (mapTo_get _ hj)) rfl) rfl)<|vst 15 rfl (zL Tryz.func117 (sscFade_e _) rfl) (.inr rfl)<|vq 16 (rj j ty.el23 rfl (by rw[length_rowsOf,mapTo_len _ _ _ (Nat.le_of_lt hj)];exact hj))<|vq 17 (rf 6 ty.F40_6 rfl)<|vst 18 rfl (zQ 1 [.v (.int .i64 (fade x.chans[j].score))] ty.co3 ty.inf3 rfl (rows_some (mapTo_get _ hj))) (.inl rfl)<|fD<|gB<|gT ?_
    refine AW.obj 1 (.arr 40 7 (rowsOf encChan (mapTo (fadeC x.tick) (j+1) x.chans))) (Eq.trans (b:=AO.arr 40 7 ((rowsOf encChan (mapTo (fadeC x.tick) j x.chans)).set j ((encChan { x.chans[j]with score:=fade x.chans[j].score }).map PV.v))) rfl (congrArg (AO.arr 40 7) (rows_set.trans (congrArg (rowsOf encChan) (by rw[←mapTo_set _ hj];unfold fadeC;rw[if_pos (by simpa using h4)]))))) ?_
    refine aL<|lgI Z<|lmI Z<|nG ?_
    refine⟨j+1,hj,by omega,⟨(iq rfl),trivial⟩,⟨rfl,trivial⟩,rfl,rfl⟩
   ·intro h4
    refine aK<|gB<|gT<|aL<|lgI Z<|lmI Z<|nG ?_
    refine⟨j+1,hj,by omega,⟨(iq rfl),trivial⟩,⟨(congrArg (fun l=>AO.arr 40 7 (rowsOf encChan l)) (mapTo_skip (fadeC x.tick) hj (if_neg (by simpa using h4)))),trivial⟩,rfl,rfl⟩
  ·intro h3
   refine aE<|eT<|eT<|eB ?_
   refine end_go ?_ ⟨rfl,(congrArg (fun l=>AO.arr 40 7 (rowsOf encChan l)) (by rw[show j=x.chans.length by have h:=h3;simp only[length_rowsOf,decide_eq_false_iff_not]at h;omega,mapTo_all];rfl)),rfl,rfl,rfl,trivial⟩
   rfl
end Go.Proofs.YtogkbcmfoalpiaaGreat

