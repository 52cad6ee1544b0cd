/- FnLost is proved: the given statement holds with no condition. Texts joined: EH2, AppF, EH3, EH4, LFnLost, CFnLost. -/
import Derived.Test.YtogkbcmfoalpiaaGreatJForward13
import Derived.Test.YtogkbcmfoalpiaaGreatRows
import Derived.Test.YtogkbcmfoalpiaaGreatKOpn
namespace Go.Proofs.YtogkbcmfoalpiaaGreat
open Go.RowKit
set_option maxHeartbeats 16000000
set_option maxRecDepth 100000
set_option linter.unusedSimpArgs false
set_option linter.unusedVariables false
theorem sPostM_succ{l p:List Line}{k:Nat}(h:k<p.length):sPostM l (p.take (k+1))=addS (sPostM l (p.take k)) p[k]:=by
 unfold sPostM
 rw[List.take_succ_eq_append_getElem h,List.foldl_append]
 rfl
theorem sPostM_inv{l p:List Line}(hl:∀z∈l,rangeA z.amt=true)(hp:∀z∈p,rangeA z.amt=true):∀k,k≤p.length→(sPostM l (p.take k)).length≤l.length+k∧bdL (1125899906842624+k*1125899906842624) (sPostM l (p.take k))
 |0,_=>by
  rw[List.take_zero]
  exact⟨Nat.le_refl _,fun z hz=>by have:=inB_true.1 (hl z hz);simp;omega⟩
 |k+1,h=>by
  obtain⟨h1,h2⟩:=sPostM_inv hl hp k (by omega)
  rw[sPostM_succ (by omega)]
  have h3:=addS_len (x:=p[k]) (sPostM l (p.take k))
  have h4:=inB_true.1 (hp _ (List.getElem_mem (show k<p.length by omega)))
  refine⟨by omega,?_⟩
  have:=bdL_addS (c:=1125899906842624) (by omega) (by omega) (x:=p[k]) ⟨by omega,by omega⟩ h2
  intro z hz
  have:=this z hz
  push_cast at *
  omega
theorem sPostC_bad{l:Ledger}{p:Posting}(h:(ledgerOk l&&postOk p.id p.lines)=false):sPostC l p=1:=by unfold sPostC;rw[if_neg (by simp[h])]
theorem sPostC_old{l:Ledger}{p:Posting}(h:ledgerOk l=true)(h2:postOk p.id p.lines=true)(h3:p.id≤l.last):sPostC l p=2:=by unfold sPostC;rw[h,h2,if_pos (by rfl),if_pos h3]
theorem sPostC_yes{l:Ledger}{p:Posting}(h:ledgerOk l=true)(h2:postOk p.id p.lines=true)(h3:¬p.id≤l.last)(h4:ledgerOk ⟨p.id,sPostM l.lines p.lines⟩=true):sPostC l p=0:=by unfold sPostC;rw[h,h2,if_pos (by rfl),if_neg h3,if_pos h4]
theorem sPostC_three{l:Ledger}{p:Posting}(h:ledgerOk l=true)(h2:postOk p.id p.lines=true)(h3:¬p.id≤l.last)(h4:ledgerOk ⟨p.id,sPostM l.lines p.lines⟩=false):sPostC l p=3:=by unfold sPostC;rw[h,h2,if_pos (by rfl),if_neg h3,if_neg (by simp[h4])]
def spoR(l:Ledger)(p:Posting):AV→List (Nat×AO)→Prop:=fun y ob=>ob=[]∧((sPostC l p≠0∧y=.tup [.agg [int 0,.p (.v (.slice none 0 0))],int (sPostC l p)])∨(sPostC l p=0∧y=.tup [.agg [int p.id,.p (.lst 120 3 (rowsOf encLine (sPostM l.lines p.lines)))],int 0]))
theorem spost_x(l:Ledger)(p:Posting)(hp:p.lines.length≤1000):GX Tryz.prog 129 [ledV l,posV p] [] (spoR l p):=by
 refine GX.intro (rs:=[.cell 4 54 (some 2),.tmp 5]) Tryz.func129 rfl Tryz.ntmps129 (Nat.le_of_ble_eq_true rfl) ⟨rfl,rfl,ty.kd54,rfl,trivial⟩ ?_
 intro L O w0
 refine sL<|lst (zX 2002 Z) Z<|lst (zX 2003 Z) Z<|lst (zA 2004 ty.ze54 Z) Z<|laI Z<|nG<|aS<|sL<|loX (.agg [vI _ _,vL _ _ _]) ty.kd54 Z<|lst (zC [] [] [] Tryz.func130 (sledgerOk_e l) (trivial) Z Z) Z<|luB Z<|lmB Z ?_
 refine AL.bool (t:=12) rfl ?_ ?_
 ·intro h1
  refine lno Z<|lno Z<|lno Z<|lkT Z<|nG<|aY Z<|sL<|lq (rd (x:=.agg [vI _ _,vV _]) (rd_build Z ty.sa54 Z Z Z) Z)<|lst (zB 2004 ty.co54 ty.inf54 Z) Z<|laI Z<|nG<|aR<|rT ?_
  refine end_xret ((.tup [.agg [int 0,.p (.v (.slice none 0 0))],int 1])) [] ?_ rfl trivial
  have hc:sPostC l p=1:=sPostC_bad (by simp_all)
  exact⟨rfl,.inl ⟨by omega,by rw[hc]⟩⟩
 ·intro h1
  refine loX (.agg [vI _ _,vL _ _ _]) ty.kd34 Z<|lst (zC [] [] [] Tryz.func141 (spostOk_e p.id p.lines) (trivial) Z Z) Z<|lT [2,3,4,5,12,14] [2002,2003,2004] ?_
  refine luB Z<|lkB Z<|nG ?_
  refine AW.cond rfl ?_ ?_
  ·intro h2
   refine sL<|lq (rd (x:=.agg [vI _ _,vV _]) (rd_build Z ty.sa54 Z Z Z) Z)<|lst (zB 2004 ty.co54 ty.inf54 Z) Z<|laI Z<|nG<|aR<|rT ?_
   refine end_xret ((.tup [.agg [int 0,.p (.v (.slice none 0 0))],int 1])) [] ?_ rfl trivial
   have hc:sPostC l p=1:=sPostC_bad (by simp_all)
   exact⟨rfl,.inl ⟨by omega,by rw[hc]⟩⟩
  ·intro h2
   refine aK<|gT<|aS<|sL<|lf 0 ty.F34_0 Z<|loI ty.kd3 Z<|lf 0 ty.F54_0 Z<|loI ty.kd3 Z<|lbB Z<|nG ?_
   refine AW.cond rfl ?_ ?_
   ·intro h3
    refine sL<|lq (rd (x:=.agg [vI _ _,vV _]) (rd_build Z ty.sa54 Z Z Z) Z)<|lst (zB 2004 ty.co54 ty.inf54 Z) Z<|laI Z<|nG<|aR<|rT ?_
    refine end_xret ((.tup [.agg [int 0,.p (.v (.slice none 0 0))],int 2])) [] ?_ rfl trivial
    have hc:sPostC l p=2:=sPostC_old (by simpa using h1) (by simpa using h2) (by simpa using h3)
    exact⟨rfl,.inl ⟨by omega,by rw[hc]⟩⟩
   ·intro h3
    refine aK<|gT<|aS<|aG 8 [2026]<|tq 0 (rf 0 ty.F34_0 Z)<|tq 1 (roI ty.kd3 Z)<|tq 3 (rf 1 ty.F54_1 Z)<|tq 4 (roL ty.kd32 Z) ?_
    refine AG.two (i:=2) (j:=7) (by kernel_rfl) ?_ ?_
    ·refine AG1.st (i:=2) rfl (St.bslice 2026 (rows:=[]) rfl rfl (by decide) ty.el32 ty.ze120 rfl rfl rfl rfl (by intro r hr;cases hr) rfl (by decide) (by decide)) (by decide) rfl ?_
     refine gX [3,4,5,25,26,28] [2002,2003,2004,2026] ?_
     refine AG.two (i:=5) (j:=7) (by kernel_rfl) ?_ ?_
     ·have hlo:ledgerOk l=true:=by simpa using h1
      have hpo:postOk p.id p.lines=true:=by simpa using h2
      obtain⟨hr1,hr2,-,-⟩:=led_rng hlo
      obtain⟨hr3,hr4,-,-⟩:=post_rng hpo
      have hold:¬p.id≤l.last:=by simpa using h3
      refine AG1.st (i:=5) rfl (St.app 2026 rfl rfl (by decide) ty.el32 ty.ze120 rfl (by decide) rfl rfl (Src.p rfl) (by simp[rowsOf,maxLen]at *;omega) (Nat.le_trans (Nat.mul_le_mul_left _ ty.by120) (by simp[rowsOf]at *;omega))) (by decide) rfl ?_
      refine AG.freeze 2026 rfl ?_
      refine tq 6 (rd (x:=.agg [vI _ _,vL _ _ _]) (rd_build Z ty.sa54 Z Z Z) Z)<|yst 7 Z (zA 2006 ty.ze54 Z)<|yl Z (zB 2006 ty.co54 ty.inf54 Z)<|gT<|aS<|sL<|lf 1 ty.F34_1 Z<|loL ty.kd32 Z<|lnI ty.sl32 Z<|lmI Z<|nG<|aB ?_
      refine aW [4,5,6,32,33] [2002,2003,2004] (D:=Nat) (fun k=>[(34,int (k:Int))]) (fun k=>[(2006,.box 54 none [int p.id,.p (.lst 120 3 (rowsOf encLine (sPostM l.lines (p.lines.take k))))])]) (fun k=>k≤p.lines.length) (fun k=>p.lines.length-k) (0) (Nat.zero_le _) ⟨rfl,trivial⟩ ⟨rfl,trivial⟩ ?_
      intro k hI
      refine sL<|lbB Z<|nG<|aS ?_
      refine AW.cond rfl ?_ ?_
      ·intro h4
       refine aK<|gT<|aS<|aB<|sL ?_
       have hk:k<p.lines.length:=by simpa[length_rowsOf]using h4
       have hsi:=sPostM_inv hr2 hr4 k (by omega)
       have hk8:(k:Int)≤8:=by omega
       have hsl:=hsi.1
       have hbd:bdL 1152921504606846976 (sPostM l.lines (p.lines.take k)):=fun z hz=>by have h1:=hsi.2 z hz;omega
       have hxr:=inB_true.1 (hr4 _ (List.getElem_mem hk))
       have hxl:-1152921504606846976≤p.lines[k].amt∧p.lines[k].amt≤1152921504606846976:=by omega
       refine li k ty.el32 rfl (row_map hk)<|lrX (.agg [vI _ _,vI _ _,vI _ _]) ty.kd120 Z<|lst (zA 2008 ty.ze120 rfl) Z<|lst (zB 2008 ty.co120 ty.inf120 rfl) Z<|nG<|aL<|lf 1 ty.F54_1 Z<|loL ty.kd32 Z<|loX (.agg [vI _ _,vI _ _,vI _ _]) ty.kd120 Z<|lst (zC [(2009,60)] [60] [] Tryz.func107 (saddG_e (sPostM l.lines (p.lines.take k)) p.lines[k] (by omega) hbd hxl) (trivial) rfl rfl) Z<|lT [4,5,6,32,33,34,41] [60,2002,2003,2004,2006,2008] ?_
       refine AL.freeze 60 rfl ?_
       refine lf 1 ty.F54_1 Z<|lst (zB 2006 ty.co32 ty.inf32 Z) Z<|lN<|gB<|gT<|aL<|lgI Z<|lmI Z<|nG ?_
       refine⟨k+1,hk,by omega,⟨(iq rfl),trivial⟩,⟨(by rw[sPostM_succ hk];rfl),trivial⟩,rfl,rfl⟩
      ·intro h4
       refine aE<|eT<|eT<|eB<|gT<|aS<|sL ?_
       have hke:p.lines.take k=p.lines:=List.take_of_length_le (by have h:=h4;simp[length_rowsOf]at h;omega)
       rw[hke]
       refine loX (.agg [vI _ _,vL _ _ _]) ty.kd54 rfl ?_
       refine lst (zC [] [] [] Tryz.func130 (sledgerOk_e ⟨p.id,sPostM l.lines p.lines⟩) (trivial) rfl rfl) Z<|luB Z<|nG ?_
       refine AW.cond rfl ?_ ?_
       ·intro h5
        refine sL<|lq (rd (x:=.agg [vI _ _,vV _]) (rd_build Z ty.sa54 Z Z Z) Z)<|lst (zB 2004 ty.co54 ty.inf54 Z) Z<|laI Z<|nG<|aR<|rT ?_
        refine end_xret ((.tup [.agg [int 0,.p (.v (.slice none 0 0))],int 3])) [] ?_ rfl trivial
        have hc:sPostC l p=3:=sPostC_three hlo hpo hold (by simpa using h5)
        exact⟨rfl,.inl ⟨by omega,by rw[hc]⟩⟩
       ·intro h5
        refine aK<|gA<|loX (.agg [vI _ _,vL _ _ _]) ty.kd54 Z<|lst (zB 2004 ty.co54 ty.inf54 Z) Z<|laI Z<|nG<|aR ?_
        refine end_xret ((.tup [.agg [int p.id,.p (.lst 120 3 (rowsOf encLine (sPostM l.lines p.lines)))],int 0])) [] ?_ rfl trivial
        exact⟨rfl,.inr ⟨sPostC_yes hlo hpo hold (by simpa using h5),rfl⟩⟩
     ·refine AG1.st (i:=7) rfl (St.alloc 2006 rfl rfl (by decide) ty.ze54) (by decide) rfl ?_
      refine gX [3,4,5,6,25,26,28] [2002,2003,2004,2006,2026] ?_
      have hlo:ledgerOk l=true:=by simpa using h1
      have hpo:postOk p.id p.lines=true:=by simpa using h2
      obtain⟨hr1,hr2,-,-⟩:=led_rng hlo
      obtain⟨hr3,hr4,-,-⟩:=post_rng hpo
      have hold:¬p.id≤l.last:=by simpa using h3
      refine yst 5 rfl (zP 2026 ty.el32 ty.ze120 ty.by120 rfl (Src.p rfl)) ?_
      refine AG.freeze 2026 rfl ?_
      refine yq 6 (rd (x:=.agg [vI _ _,vL _ _ _]) (rd_build Z ty.sa54 Z Z Z) Z)<|yl Z (zB 2006 ty.co54 ty.inf54 Z)<|gT<|aS<|sL<|lf 1 ty.F34_1 Z<|loL ty.kd32 Z<|lnI ty.sl32 Z<|lmI Z<|nG<|aB ?_
      refine aW [4,5,6,32,33] [2002,2003,2004] (D:=Nat) (fun k=>[(34,int (k:Int))]) (fun k=>[(2006,.box 54 none [int p.id,.p (.lst 120 3 (rowsOf encLine (sPostM l.lines (p.lines.take k))))])]) (fun k=>k≤p.lines.length) (fun k=>p.lines.length-k) (0) (Nat.zero_le _) ⟨rfl,trivial⟩ ⟨rfl,trivial⟩ ?_
      intro k hI
      refine sL<|lbB Z<|nG<|aS ?_
      refine AW.cond rfl ?_ ?_
      ·intro h6
       refine aK<|gT<|aS<|aB<|sL ?_
       have hk:k<p.lines.length:=by simpa[length_rowsOf]using h6
       have hsi:=sPostM_inv hr2 hr4 k (by omega)
       have hk8:(k:Int)≤8:=by omega
       have hsl:=hsi.1
       have hbd:bdL 1152921504606846976 (sPostM l.lines (p.lines.take k)):=fun z hz=>by have h1:=hsi.2 z hz;omega
       have hxr:=inB_true.1 (hr4 _ (List.getElem_mem hk))
       have hxl:-1152921504606846976≤p.lines[k].amt∧p.lines[k].amt≤1152921504606846976:=by omega
       refine li k ty.el32 rfl (row_map hk)<|lrX (.agg [vI _ _,vI _ _,vI _ _]) ty.kd120 Z<|lst (zA 2008 ty.ze120 rfl) Z<|lst (zB 2008 ty.co120 ty.inf120 rfl) Z<|nG<|aL<|lf 1 ty.F54_1 Z<|loL ty.kd32 Z<|loX (.agg [vI _ _,vI _ _,vI _ _]) ty.kd120 Z<|lst (zC [(2009,60)] [60] [] Tryz.func107 (saddG_e (sPostM l.lines (p.lines.take k)) p.lines[k] (by omega) hbd hxl) (trivial) rfl rfl) Z<|lT [4,5,6,32,33,34,41] [60,2002,2003,2004,2006,2008] ?_
       refine AL.freeze 60 rfl ?_
       refine lf 1 ty.F54_1 Z<|lst (zB 2006 ty.co32 ty.inf32 Z) Z<|lN<|gB<|gT<|aL<|lgI Z<|lmI Z<|nG ?_
       refine⟨k+1,hk,by omega,⟨(iq rfl),trivial⟩,⟨(by rw[sPostM_succ hk];rfl),trivial⟩,rfl,rfl⟩
      ·intro h6
       refine aE<|eT<|eT<|eB<|gT<|aS<|sL ?_
       have hke:p.lines.take k=p.lines:=List.take_of_length_le (by have h:=h6;simp[length_rowsOf]at h;omega)
       rw[hke]
       refine loX (.agg [vI _ _,vL _ _ _]) ty.kd54 rfl ?_
       refine lst (zC [] [] [] Tryz.func130 (sledgerOk_e ⟨p.id,sPostM l.lines p.lines⟩) (trivial) rfl rfl) Z<|luB Z<|nG ?_
       refine AW.cond rfl ?_ ?_
       ·intro h7
        refine sL<|lq (rd (x:=.agg [vI _ _,vV _]) (rd_build Z ty.sa54 Z Z Z) Z)<|lst (zB 2004 ty.co54 ty.inf54 Z) Z<|laI Z<|nG<|aR<|rT ?_
        refine end_xret ((.tup [.agg [int 0,.p (.v (.slice none 0 0))],int 3])) [] ?_ rfl trivial
        have hc:sPostC l p=3:=sPostC_three hlo hpo hold (by simpa using h7)
        exact⟨rfl,.inl ⟨by omega,by rw[hc]⟩⟩
       ·intro h7
        refine aK<|gA<|loX (.agg [vI _ _,vL _ _ _]) ty.kd54 Z<|lst (zB 2004 ty.co54 ty.inf54 Z) Z<|laI Z<|nG<|aR ?_
        refine end_xret ((.tup [.agg [int p.id,.p (.lst 120 3 (rowsOf encLine (sPostM l.lines p.lines)))],int 0])) [] ?_ rfl trivial
        exact⟨rfl,.inr ⟨sPostC_yes hlo hpo hold (by simpa using h7),rfl⟩⟩
    ·refine AG1.st (i:=7) rfl (St.alloc 2006 rfl rfl (by decide) ty.ze54) (by decide) rfl ?_
     refine gX [3,4,5,6,25,28] [2002,2003,2004,2006] ?_
     refine yst 2 rfl (zS 2026 [] ty.el32 ty.ze120 rfl (by intro r hr;cases hr)) ?_
     have hlo:ledgerOk l=true:=by simpa using h1
     have hpo:postOk p.id p.lines=true:=by simpa using h2
     obtain⟨hr1,hr2,-,-⟩:=led_rng hlo
     obtain⟨hr3,hr4,-,-⟩:=post_rng hpo
     have hold:¬p.id≤l.last:=by simpa using h3
     refine yst 5 rfl (zP 2026 ty.el32 ty.ze120 ty.by120 rfl (Src.p rfl)) ?_
     refine AG.freeze 2026 rfl ?_
     refine yq 6 (rd (x:=.agg [vI _ _,vL _ _ _]) (rd_build Z ty.sa54 Z Z Z) Z)<|yl Z (zB 2006 ty.co54 ty.inf54 Z)<|gT<|aS<|sL<|lf 1 ty.F34_1 Z<|loL ty.kd32 Z<|lnI ty.sl32 Z<|lmI Z<|nG<|aB ?_
     refine aW [4,5,6,32,33] [2002,2003,2004] (D:=Nat) (fun k=>[(34,int (k:Int))]) (fun k=>[(2006,.box 54 none [int p.id,.p (.lst 120 3 (rowsOf encLine (sPostM l.lines (p.lines.take k))))])]) (fun k=>k≤p.lines.length) (fun k=>p.lines.length-k) (0) (Nat.zero_le _) ⟨rfl,trivial⟩ ⟨rfl,trivial⟩ ?_
     intro k hI
     refine sL<|lbB Z<|nG<|aS ?_
     refine AW.cond rfl ?_ ?_
     ·intro h8
      refine aK<|gT<|aS<|aB<|sL ?_
      have hk:k<p.lines.length:=by simpa[length_rowsOf]using h8
      have hsi:=sPostM_inv hr2 hr4 k (by omega)
      have hk8:(k:Int)≤8:=by omega
      have hsl:=hsi.1
      have hbd:bdL 1152921504606846976 (sPostM l.lines (p.lines.take k)):=fun z hz=>by have h1:=hsi.2 z hz;omega
      have hxr:=inB_true.1 (hr4 _ (List.getElem_mem hk))
      have hxl:-1152921504606846976≤p.lines[k].amt∧p.lines[k].amt≤1152921504606846976:=by omega
      refine li k ty.el32 rfl (row_map hk)<|lrX (.agg [vI _ _,vI _ _,vI _ _]) ty.kd120 Z<|lst (zA 2008 ty.ze120 rfl) Z<|lst (zB 2008 ty.co120 ty.inf120 rfl) Z<|nG<|aL<|lf 1 ty.F54_1 Z<|loL ty.kd32 Z<|loX (.agg [vI _ _,vI _ _,vI _ _]) ty.kd120 Z<|lst (zC [(2009,60)] [60] [] Tryz.func107 (saddG_e (sPostM l.lines (p.lines.take k)) p.lines[k] (by omega) hbd hxl) (trivial) rfl rfl) Z<|lT [4,5,6,32,33,34,41] [60,2002,2003,2004,2006,2008] ?_
      refine AL.freeze 60 rfl ?_
      refine lf 1 ty.F54_1 Z<|lst (zB 2006 ty.co32 ty.inf32 Z) Z<|lN<|gB<|gT<|aL<|lgI Z<|lmI Z<|nG ?_
      refine⟨k+1,hk,by omega,⟨(iq rfl),trivial⟩,⟨(by rw[sPostM_succ hk];rfl),trivial⟩,rfl,rfl⟩
     ·intro h8
      refine aE<|eT<|eT<|eB<|gT<|aS<|sL ?_
      have hke:p.lines.take k=p.lines:=List.take_of_length_le (by have h:=h8;simp[length_rowsOf]at h;omega)
      rw[hke]
      refine loX (.agg [vI _ _,vL _ _ _]) ty.kd54 rfl ?_
      refine lst (zC [] [] [] Tryz.func130 (sledgerOk_e ⟨p.id,sPostM l.lines p.lines⟩) (trivial) rfl rfl) Z<|luB Z<|nG ?_
      refine AW.cond rfl ?_ ?_
      ·intro h9
       refine sL<|lq (rd (x:=.agg [vI _ _,vV _]) (rd_build Z ty.sa54 Z Z Z) Z)<|lst (zB 2004 ty.co54 ty.inf54 Z) Z<|laI Z<|nG<|aR<|rT ?_
       refine end_xret ((.tup [.agg [int 0,.p (.v (.slice none 0 0))],int 3])) [] ?_ rfl trivial
       have hc:sPostC l p=3:=sPostC_three hlo hpo hold (by simpa using h9)
       exact⟨rfl,.inl ⟨by omega,by rw[hc]⟩⟩
      ·intro h9
       refine aK<|gA<|loX (.agg [vI _ _,vL _ _ _]) ty.kd54 Z<|lst (zB 2004 ty.co54 ty.inf54 Z) Z<|laI Z<|nG<|aR ?_
       refine end_xret ((.tup [.agg [int p.id,.p (.lst 120 3 (rowsOf encLine (sPostM l.lines p.lines)))],int 0])) [] ?_ rfl trivial
       exact⟨rfl,.inr ⟨sPostC_yes hlo hpo hold (by simpa using h9),rfl⟩⟩
theorem spost_e(l:Ledger)(p:Posting)(hp:p.lines.length≤1000):GC Tryz.prog 129 [ledV l,posV p] [] (.tup [ledV (sPostL l p),int (sPostC l p)]) []:=GX.imp (spost_x l p hp) (fun x ob1 ⟨e1,e2⟩=>by
 subst e1
 rcases e2 with⟨h,rfl⟩|⟨h,rfl⟩
 ·rw[show sPostL l p=⟨0,[]⟩from if_neg h]
  exact⟨_,Imp.tup (ImpL.cons (Imp.agg (ImpL.cons (Imp.refl _) (ImpL.cons (Imp.nil _ _) ImpL.nil))) (ImpL.cons (Imp.refl _) ImpL.nil)),rfl,rfl⟩
 ·have e:sPostL l p=⟨p.id,sPostM l.lines p.lines⟩:=if_pos h
  rw[e,h]
  exact⟨_,Imp.refl _,rfl,rfl⟩)
theorem sPostS_succ{l:Ledger}{ps:List Posting}{k:Nat}(h:k<ps.length):sPostS l (ps.take (k+1))=sPostF (sPostS l (ps.take k)) ps[k]:=by
 unfold sPostS
 rw[List.take_succ_eq_append_getElem h,List.foldl_append]
 rfl
theorem sPostS_le{l:Ledger}{ps:List Posting}(hl:l.lines.length≤320):∀k,k≤ps.length→(sPostS l (ps.take k)).1.lines.length≤320∧0≤(sPostS l (ps.take k)).2∧(sPostS l (ps.take k)).2≤k
 |0,_=>by rw[List.take_zero];exact⟨hl,Int.le_refl _,Int.le_refl _⟩
 |k+1,h=>by
  rw[sPostS_succ (by omega)]
  obtain⟨h1,h2,h3⟩:=sPostS_le (ps:=ps) hl k (by omega)
  unfold sPostF
  split
  ·rename_i q
   refine⟨?_,by dsimp only;omega,by dsimp only;omega⟩
   have:=(led_rng (sPostC_zero q).2.2.2).1
   unfold sPostL
   rw[if_pos q]
   exact this
  ·exact⟨h1,h2,by omega⟩
def spaR(l:Ledger)(ps:List Posting):AV→List (Nat×AO)→Prop:=fun y ob=>ob=[]∧((ledgerOk l=false∧y=.tup [.agg [int 0,.p (.v (.slice none 0 0))],int (-1)])∨(ledgerOk l=true∧y=.tup [ledV (sPostS l ps).1,int (sPostS l ps).2]))
theorem spostAll_x(l:Ledger)(ps:List Posting)(hps:∀p∈ps,p.lines.length≤1000)(hn:ps.length≤1000000):GX Tryz.prog 88 [ledV l,.p (.lst 34 2 (rowsP ps))] [] (spaR l ps):=by
 refine GX.intro (rs:=[.cell 4 54 (some 2),.tmp 5]) Tryz.func88 rfl Tryz.ntmps88 (Nat.le_of_ble_eq_true rfl) ⟨rfl,rfl,ty.kd54,rfl,trivial⟩ ?_
 intro L O w0
 refine sL<|lst (zX 2002 Z) Z<|lst (zA 2004 ty.ze54 Z) Z<|laI Z<|nG<|aS<|sL<|loX (.agg [vI _ _,vL _ _ _]) ty.kd54 Z<|lst (zC [] [] [] Tryz.func130 (sledgerOk_e l) (trivial) Z Z) Z<|luB Z<|nG ?_
 refine AW.cond rfl ?_ ?_
 ·intro h1
  refine sL<|lq (rd (x:=.agg [vI _ _,vV _]) (rd_build Z ty.sa54 Z Z Z) Z)<|lst (zB 2004 ty.co54 ty.inf54 Z) Z<|laI Z<|nG<|aR<|rT ?_
  refine end_xret ((.tup [.agg [int 0,.p (.v (.slice none 0 0))],int (-1)])) [] ?_ rfl trivial
  exact⟨rfl,.inl ⟨by simpa using h1,rfl⟩⟩
 ·intro h1
  refine aK<|gT<|aS<|aG 8 [2018]<|tq 0 (rf 0 ty.F54_0 Z)<|tq 1 (roI ty.kd3 Z)<|tq 3 (rf 1 ty.F54_1 Z)<|tq 4 (roL ty.kd32 Z) ?_
  refine AG.two (i:=2) (j:=7) (by kernel_rfl) ?_ ?_
  ·refine AG1.st (i:=2) rfl (St.bslice 2018 (rows:=[]) rfl rfl (by decide) ty.el32 ty.ze120 rfl rfl rfl rfl (by intro r hr;cases hr) rfl (by decide) (by decide)) (by decide) rfl ?_
   refine gX [1,4,5,17,18,20] [2002,2004,2018] ?_
   refine AG.two (i:=5) (j:=7) (by kernel_rfl) ?_ ?_
   ·have hlo:ledgerOk l=true:=by simpa using h1
    obtain⟨hr1,hr2,-,-⟩:=led_rng hlo
    refine AG1.st (i:=5) rfl (St.app 2018 rfl rfl (by decide) ty.el32 ty.ze120 rfl (by decide) rfl rfl (Src.p rfl) (by simp[rowsOf,maxLen]at *;omega) (Nat.le_trans (Nat.mul_le_mul_left _ ty.by120) (by simp[rowsOf]at *;omega))) (by decide) rfl ?_
    refine AG.freeze 2018 rfl ?_
    refine tq 6 (rd (x:=.agg [vI _ _,vL _ _ _]) (rd_build Z ty.sa54 Z Z Z) Z)<|yst 7 Z (zA 2006 ty.ze54 Z)<|yl Z (zB 2006 ty.co54 ty.inf54 Z)<|gA<|laI Z<|nG<|aS<|sL<|lmL Z<|lnI ty.sl49 Z<|lmI Z<|nG<|aB ?_
    refine aW [4,5,6,23,24] [2002,2004] (D:=Nat) (fun k=>[(7,int (sPostS l (ps.take k)).2),(25,int (k:Int))]) (fun k=>[(2006,.box 54 none [int (sPostS l (ps.take k)).1.last,.p (.lst 120 3 (rowsOf encLine (sPostS l (ps.take k)).1.lines))])]) (fun k=>k≤ps.length) (fun k=>ps.length-k) (0) (Nat.zero_le _) ⟨rfl,rfl,trivial⟩ ⟨rfl,trivial⟩ ?_
    intro k hI
    refine sL<|lbB Z<|nG<|aS ?_
    refine AW.cond rfl ?_ ?_
    ·intro h2
     refine aK<|gT<|aS<|aB<|sL ?_
     have hk:k<ps.length:=by simpa[rowsP_len]using h2
     have hs:=sPostS_le (ps:=ps) hr1 k (by omega)
     refine li k ty.el49 Z (rowsP_at hk)<|lrX (.agg [vI _ _,vL _ _ _]) ty.kd34 Z<|lst (zA 2009 ty.ze34 Z) Z<|lst (zB 2009 ty.co34 ty.inf34 Z) Z<|nA<|loX (.agg [vI _ _,vL _ _ _]) ty.kd54 Z<|loX (.agg [vI _ _,vL _ _ _]) ty.kd34 Z<|lst (zC [] [] [] Tryz.func129 (spost_e (sPostS l (ps.take k)).1 ps[k] (hps _ (List.getElem_mem hk))) (trivial) Z Z) Z<|lT [4,5,6,7,23,24,25,32] [2002,2004,2006,2009] ?_
     refine lmX (.tup [.agg [vI _ _,vL _ _ _],vI _ _]) Z<|lxX (.agg [vI _ _,vL _ _ _]) Z<|lxI Z<|lst (zA 2010 ty.ze54 Z) Z<|lst (zB 2010 ty.co54 ty.inf54 Z) Z<|laI Z<|nA<|lmI Z<|lbB Z<|nG ?_
     refine AW.cond rfl ?_ ?_
     ·intro h3
      refine sL<|loX (.agg [vI _ _,vL _ _ _]) ty.kd54 Z<|lst (zB 2006 ty.co54 ty.inf54 Z) Z<|nG<|aL<|lmI Z<|lgI Z<|laI Z<|lN<|gB<|gT<|aL<|lgI Z<|lmI Z<|nG ?_
      have hst:sPostS l (ps.take (k+1))=(sPostL (sPostS l (ps.take k)).1 ps[k],(sPostS l (ps.take k)).2+1):=by
       rw[sPostS_succ hk]
       exact if_pos (by simpa using h3)
      refine⟨k+1,hk,by omega,⟨(Eq.trans (b:=int _) rfl (congrArg int (by rw[hst]))),(iq rfl),trivial⟩,⟨(by rw[hst];rfl),trivial⟩,rfl,rfl⟩
     ·intro h3
      refine aK<|gB<|gT<|aL<|lgI Z<|lmI Z<|nG ?_
      have hst:sPostS l (ps.take (k+1))=sPostS l (ps.take k):=by
       rw[sPostS_succ hk]
       exact if_neg (by simpa using h3)
      refine⟨k+1,hk,by omega,⟨(Eq.trans (b:=int _) rfl (congrArg int (by rw[hst]))),(iq rfl),trivial⟩,⟨(by rw[hst];rfl),trivial⟩,rfl,rfl⟩
    ·intro h2
     refine aE<|eT<|eT<|eB<|gA<|loX (.agg [vI _ _,vL _ _ _]) ty.kd54 Z<|lmI Z<|lst (zB 2004 ty.co54 ty.inf54 Z) Z<|lT [4,5,42] [2002,2004,2006] ?_
     refine laI Z<|nG<|aR ?_
     have hke:ps.take k=ps:=List.take_of_length_le (by have h:=h2;simp[rowsP_len]at h;omega)
     rw[hke]
     refine end_xret ((.tup [ledV (sPostS l ps).1,int (sPostS l ps).2])) [] ?_ rfl trivial
     exact⟨rfl,.inr ⟨hlo,rfl⟩⟩
   ·refine AG1.st (i:=7) rfl (St.alloc 2006 rfl rfl (by decide) ty.ze54) (by decide) rfl ?_
    have hlo:ledgerOk l=true:=by simpa using h1
    obtain⟨hr1,hr2,-,-⟩:=led_rng hlo
    refine yst 5 rfl (zP 2018 ty.el32 ty.ze120 ty.by120 rfl (Src.p rfl)) ?_
    refine AG.freeze 2018 rfl ?_
    refine yq 6 (rd (x:=.agg [vI _ _,vL _ _ _]) (rd_build Z ty.sa54 Z Z Z) Z)<|yl Z (zB 2006 ty.co54 ty.inf54 Z)<|gA<|laI Z<|nG<|aS<|sL<|lmL Z<|lnI ty.sl49 Z<|lmI Z<|nG<|aB ?_
    refine aW [4,5,6,23,24] [2002,2004] (D:=Nat) (fun k=>[(7,int (sPostS l (ps.take k)).2),(25,int (k:Int))]) (fun k=>[(2006,.box 54 none [int (sPostS l (ps.take k)).1.last,.p (.lst 120 3 (rowsOf encLine (sPostS l (ps.take k)).1.lines))])]) (fun k=>k≤ps.length) (fun k=>ps.length-k) (0) (Nat.zero_le _) ⟨rfl,rfl,trivial⟩ ⟨rfl,trivial⟩ ?_
    intro k hI
    refine sL<|lbB Z<|nG<|aS ?_
    refine AW.cond rfl ?_ ?_
    ·intro h4
     refine aK<|gT<|aS<|aB<|sL ?_
     have hk:k<ps.length:=by simpa[rowsP_len]using h4
     have hs:=sPostS_le (ps:=ps) hr1 k (by omega)
     refine li k ty.el49 Z (rowsP_at hk)<|lrX (.agg [vI _ _,vL _ _ _]) ty.kd34 Z<|lst (zA 2009 ty.ze34 Z) Z<|lst (zB 2009 ty.co34 ty.inf34 Z) Z<|lT [4,5,6,7,9,23,24,25] [2002,2004,2006,2009] ?_
     refine nA<|loX (.agg [vI _ _,vL _ _ _]) ty.kd54 Z<|loX (.agg [vI _ _,vL _ _ _]) ty.kd34 Z<|lst (zC [] [] [] Tryz.func129 (spost_e (sPostS l (ps.take k)).1 ps[k] (hps _ (List.getElem_mem hk))) (trivial) Z Z) Z<|lmX (.tup [.agg [vI _ _,vL _ _ _],vI _ _]) Z<|lxX (.agg [vI _ _,vL _ _ _]) Z<|lxI Z<|lst (zA 2010 ty.ze54 Z) Z<|lst (zB 2010 ty.co54 ty.inf54 Z) Z<|laI Z<|nA<|lmI Z<|lbB Z<|nG ?_
     refine AW.cond rfl ?_ ?_
     ·intro h5
      refine sL<|loX (.agg [vI _ _,vL _ _ _]) ty.kd54 Z<|lst (zB 2006 ty.co54 ty.inf54 Z) Z<|nG<|aL<|lmI Z<|lgI Z<|laI Z<|lN<|gB<|gT<|aL<|lgI Z<|lmI Z<|nG ?_
      have hst:sPostS l (ps.take (k+1))=(sPostL (sPostS l (ps.take k)).1 ps[k],(sPostS l (ps.take k)).2+1):=by
       rw[sPostS_succ hk]
       exact if_pos (by simpa using h5)
      refine⟨k+1,hk,by omega,⟨(Eq.trans (b:=int _) rfl (congrArg int (by rw[hst]))),(iq rfl),trivial⟩,⟨(by rw[hst];rfl),trivial⟩,rfl,rfl⟩
     ·intro h5
      refine aK<|gB<|gT<|aL<|lgI Z<|lmI Z<|nG ?_
      have hst:sPostS l (ps.take (k+1))=sPostS l (ps.take k):=by
       rw[sPostS_succ hk]
       exact if_neg (by simpa using h5)
      refine⟨k+1,hk,by omega,⟨(Eq.trans (b:=int _) rfl (congrArg int (by rw[hst]))),(iq rfl),trivial⟩,⟨(by rw[hst];rfl),trivial⟩,rfl,rfl⟩
    ·intro h4
     refine aE<|eT<|eT<|eB<|gA<|loX (.agg [vI _ _,vL _ _ _]) ty.kd54 Z<|lmI Z<|lst (zB 2004 ty.co54 ty.inf54 Z) Z<|lT [4,5,42] [2002,2004,2006] ?_
     refine laI Z<|nG<|aR ?_
     have hke:ps.take k=ps:=List.take_of_length_le (by have h:=h4;simp[rowsP_len]at h;omega)
     rw[hke]
     refine end_xret ((.tup [ledV (sPostS l ps).1,int (sPostS l ps).2])) [] ?_ rfl trivial
     exact⟨rfl,.inr ⟨hlo,rfl⟩⟩
  ·refine AG1.st (i:=7) rfl (St.alloc 2006 rfl rfl (by decide) ty.ze54) (by decide) rfl ?_
   refine yst 2 rfl (zS 2018 [] ty.el32 ty.ze120 rfl (by intro r hr;cases hr)) ?_
   have hlo:ledgerOk l=true:=by simpa using h1
   obtain⟨hr1,hr2,-,-⟩:=led_rng hlo
   refine yst 5 rfl (zP 2018 ty.el32 ty.ze120 ty.by120 rfl (Src.p rfl)) ?_
   refine AG.freeze 2018 rfl ?_
   refine yq 6 (rd (x:=.agg [vI _ _,vL _ _ _]) (rd_build Z ty.sa54 Z Z Z) Z)<|yl Z (zB 2006 ty.co54 ty.inf54 Z)<|gA<|laI Z<|nG<|aS<|sL<|lmL Z<|lnI ty.sl49 Z<|lmI Z<|nG<|aB ?_
   refine aW [4,5,6,23,24] [2002,2004] (D:=Nat) (fun k=>[(7,int (sPostS l (ps.take k)).2),(25,int (k:Int))]) (fun k=>[(2006,.box 54 none [int (sPostS l (ps.take k)).1.last,.p (.lst 120 3 (rowsOf encLine (sPostS l (ps.take k)).1.lines))])]) (fun k=>k≤ps.length) (fun k=>ps.length-k) (0) (Nat.zero_le _) ⟨rfl,rfl,trivial⟩ ⟨rfl,trivial⟩ ?_
   intro k hI
   refine sL<|lbB Z<|nG<|aS ?_
   refine AW.cond rfl ?_ ?_
   ·intro h6
    refine aK<|gT<|aS<|aB<|sL ?_
    have hk:k<ps.length:=by simpa[rowsP_len]using h6
    have hs:=sPostS_le (ps:=ps) hr1 k (by omega)
    refine li k ty.el49 Z (rowsP_at hk)<|lrX (.agg [vI _ _,vL _ _ _]) ty.kd34 Z<|lst (zA 2009 ty.ze34 Z) Z<|lT [4,5,6,7,9,23,24,25,28] [2002,2004,2006,2009] ?_
    refine lst (zB 2009 ty.co34 ty.inf34 Z) Z<|nA<|loX (.agg [vI _ _,vL _ _ _]) ty.kd54 Z<|loX (.agg [vI _ _,vL _ _ _]) ty.kd34 Z<|lst (zC [] [] [] Tryz.func129 (spost_e (sPostS l (ps.take k)).1 ps[k] (hps _ (List.getElem_mem hk))) (trivial) Z Z) Z<|lmX (.tup [.agg [vI _ _,vL _ _ _],vI _ _]) Z<|lxX (.agg [vI _ _,vL _ _ _]) Z<|lxI Z<|lst (zA 2010 ty.ze54 Z) Z<|lst (zB 2010 ty.co54 ty.inf54 Z) Z<|laI Z<|nA<|lmI Z<|lbB Z<|nG ?_
    refine AW.cond rfl ?_ ?_
    ·intro h7
     refine sL<|loX (.agg [vI _ _,vL _ _ _]) ty.kd54 Z<|lst (zB 2006 ty.co54 ty.inf54 Z) Z<|lT [4,5,6,7,23,24,25] [2002,2004,2006,2009,2010] ?_
     refine nG<|aL<|lmI Z<|lgI Z<|laI Z<|lN<|gB<|gT<|aL<|lgI Z<|lmI Z<|nG ?_
     have hst:sPostS l (ps.take (k+1))=(sPostL (sPostS l (ps.take k)).1 ps[k],(sPostS l (ps.take k)).2+1):=by
      rw[sPostS_succ hk]
      exact if_pos (by simpa using h7)
     refine⟨k+1,hk,by omega,⟨(Eq.trans (b:=int _) rfl (congrArg int (by rw[hst]))),(iq rfl),trivial⟩,⟨(by rw[hst];rfl),trivial⟩,rfl,rfl⟩
    ·intro h7
     refine aK<|gB<|gT<|aL<|lgI Z<|lmI Z<|nG ?_
     have hst:sPostS l (ps.take (k+1))=sPostS l (ps.take k):=by
      rw[sPostS_succ hk]
      exact if_neg (by simpa using h7)
     refine⟨k+1,hk,by omega,⟨(Eq.trans (b:=int _) rfl (congrArg int (by rw[hst]))),(iq rfl),trivial⟩,⟨(by rw[hst];rfl),trivial⟩,rfl,rfl⟩
   ·intro h6
    refine aE<|eT<|eT<|eB<|gA<|loX (.agg [vI _ _,vL _ _ _]) ty.kd54 Z<|lmI Z<|lst (zB 2004 ty.co54 ty.inf54 Z) Z<|laI Z<|nG<|aR ?_
    have hke:ps.take k=ps:=List.take_of_length_le (by have h:=h6;simp[rowsP_len]at h;omega)
    rw[hke]
    refine end_xret ((.tup [ledV (sPostS l ps).1,int (sPostS l ps).2])) [] ?_ rfl trivial
    exact⟨rfl,.inr ⟨hlo,rfl⟩⟩
theorem spostAll_e(l:Ledger)(ps:List Posting)(hl:ledgerOk l=true)(hps:∀p∈ps,p.lines.length≤1000)(hn:ps.length≤1000000):GC Tryz.prog 88 [ledV l,.p (.lst 34 2 (rowsP ps))] [] (.tup [ledV (sPostS l ps).1,int (sPostS l ps).2]) []:=(spostAll_x l ps hps hn).gc fun y o ⟨e1,e2⟩=>by
 rcases e2 with⟨h,_⟩|⟨_,h⟩
 ·rw[hl]at h;cases h
 ·exact⟨h,e1⟩
theorem spostAll0_e(ps:List Posting)(hps:∀p∈ps,p.lines.length≤1000)(hn:ps.length≤1000000):GC Tryz.prog 88 [.agg [int 0,.p (.v (.slice none 0 0))],.p (.lst 34 2 (rowsP ps))] [] (.tup [ledV (sPostS ⟨0,[]⟩ ps).1,int (sPostS ⟨0,[]⟩ ps).2]) []:=GC.imp_args (spostAll_e ⟨0,[]⟩ ps rfl hps hn) (ImpL.cons (Imp.agg (ImpL.cons (Imp.refl _) (ImpL.cons (Imp.nil _ _) ImpL.nil))) (ImpL.cons (Imp.refl _) ImpL.nil))
theorem worth_take{l:List Line}{k:Nat}(h:k<l.length):worthT (l.take (k+1))=worthT (l.take k)+wT l[k]:=by
 have key:∀(a b:List Line),worthT (a++b)=worthT a+worthT b:=fun a b=>by
  induction a with
  |nil=>show worthT b=0+worthT b;omega
  |cons x a ih=>show wT x+worthT (a++b)=wT x+worthT a+worthT b;omega
 rw[List.take_succ_eq_append_getElem h,key]
 show _+(wT l[k]+0)=_
 omega
theorem worth_bd{l:List Line}(h:∀z∈l,rangeA z.amt=true):∀k,k≤l.length→-(k*1125899906842624:Int)≤worthT (l.take k)∧worthT (l.take k)≤k*1125899906842624
 |0,_=>by rw[List.take_zero];exact⟨by show _≤(0:Int);omega,by show (0:Int)≤_;omega⟩
 |k+1,hk=>by
  have ih:=worth_bd h k (by omega)
  have hb:=inB_true.1 (h _ (List.getElem_mem (show k<l.length by omega)))
  rw[worth_take (by omega)]
  unfold wT
  push_cast
  split<;>omega
theorem worth_e(l:Ledger):GC Tryz.prog 29 [ledV l] [] (int (worth l)) []:=by
 refine gi 2 Tryz.func29 rfl Tryz.ntmps29 rfl ?_
 intro L O w0
 refine sL<|lst (zX 2001 Z) Z<|laI Z<|nG<|aS<|sL<|loX (.agg [vI _ _,vL _ _ _]) ty.kd54 Z<|lst (zC [] [] [] Tryz.func71 (ledgerOk_e l) (trivial) Z Z) Z<|luB Z<|nG ?_
 refine AW.cond rfl ?_ ?_
 ·intro h1
  refine sL<|laI Z<|nG<|aR<|rT ?_
  refine end_ret ?_ trivial
  refine congrArg (fun b=>some (int b)) ?_
  unfold worth
  rw[if_neg (by simpa using h1)]
 ·intro h1
  refine aK<|gA<|laI Z<|nG<|aS<|sL ?_
  have hlo:ledgerOk l=true:=by simpa using h1
  obtain⟨hr1,hr2,-,-⟩:=led_rng hlo
  refine lf 1 ty.F54_1 Z<|loL ty.kd32 Z<|lnI ty.sl32 Z<|lmI Z<|nG<|aB ?_
  refine aW [2,10,11] [2001] (D:=Nat) (fun k=>[(3,int (worthT (l.lines.take k))),(12,int (k:Int))]) (fun k=>[]) (fun k=>k≤l.lines.length) (fun k=>l.lines.length-k) (0) (Nat.zero_le _) ⟨rfl,rfl,trivial⟩ trivial ?_
  intro k hI
  refine sL<|lbB Z<|nG<|aS ?_
  refine AW.cond rfl ?_ ?_
  ·intro h2
   refine aK<|gT<|aS<|aB<|sL ?_
   have hk:k<l.lines.length:=by simpa[length_rowsOf]using h2
   have hwb:=worth_bd hr2 k (by omega)
   have hxr:=inB_true.1 (hr2 _ (List.getElem_mem hk))
   have hk3:(k:Int)≤320:=by omega
   refine li k ty.el32 Z (row_map hk)<|lrX (.agg [vI _ _,vI _ _,vI _ _]) ty.kd120 Z<|lst (zA 2005 ty.ze120 Z) Z<|lT [2,3,5,10,11,12,15] [2001,2005] ?_
   refine lst (zB 2005 ty.co120 ty.inf120 Z) Z<|nA<|lf 0 ty.F120_0 Z<|lf 0 ty.F110_0 Z<|loI ty.kd3 Z<|lbB Z<|lmB Z ?_
   refine AL.bool (t:=20) rfl ?_ ?_
   ·intro h3
    refine lno Z<|lno Z<|lno Z<|lno Z<|lkT Z<|nG<|aY Z<|aL<|lmI Z<|lf 2 ty.F120_1 Z<|loI ty.kd3 Z<|lgI Z<|laI Z<|lN<|gB<|gT<|aL<|lgI Z<|lmI Z<|nG ?_
    have hst:worthT (l.lines.take (k+1))=worthT (l.lines.take k)+l.lines[k].amt:=by
     rw[worth_take hk]
     unfold wT
     rw[if_pos (by have a:=h3;simp at a;omega)]
    refine⟨k+1,hk,by omega,⟨(Eq.trans (b:=int _) rfl (congrArg int (by rw[hst]))),(iq rfl),trivial⟩,trivial,rfl,rfl⟩
   ·intro h3
    refine lf 0 ty.F120_0 Z<|lf 0 ty.F110_0 Z<|loI ty.kd3 Z<|lbB Z<|lkB Z<|nG ?_
    refine AW.cond rfl ?_ ?_
    ·intro h4
     refine aL<|lmI Z<|lf 2 ty.F120_1 Z<|loI ty.kd3 Z<|lgI Z<|laI Z<|lN<|gB<|gT<|aL<|lgI Z<|lmI Z<|nG ?_
     have hst:worthT (l.lines.take (k+1))=worthT (l.lines.take k)+l.lines[k].amt:=by
      rw[worth_take hk]
      unfold wT
      rw[if_pos (by have a:=h4;simp at a;omega)]
     refine⟨k+1,hk,by omega,⟨(Eq.trans (b:=int _) rfl (congrArg int (by rw[hst]))),(iq rfl),trivial⟩,trivial,rfl,rfl⟩
    ·intro h4
     refine aK<|gB<|gT<|aL<|lgI Z<|lmI Z<|nG ?_
     have hst:worthT (l.lines.take (k+1))=worthT (l.lines.take k):=by
      rw[worth_take hk]
      unfold wT
      rw[if_neg (by have a:=h3;have b:=h4;simp at a b;omega)]
      omega
     refine⟨k+1,hk,by omega,⟨(Eq.trans (b:=int _) rfl (congrArg int (by rw[hst]))),(iq rfl),trivial⟩,trivial,rfl,rfl⟩
  ·intro h2
   refine aE<|eT<|eT<|eB<|gA<|lmI Z<|laI Z<|lT [2] [2001] ?_
   refine nG<|aR ?_
   refine end_ret ?_ trivial
   refine congrArg (fun b=>some (int b)) ?_
   rw[worth_ok hlo,List.take_of_length_le (by have h:=h2;simp[length_rowsOf]at h;omega)]
theorem ty.sf120 : Tryz.prog.fieldsOf 120 = ([{ name := "Acc",type := 110,offset := 0,embedded := false,tag := "",pkgPath := "",byteOffset := 0 },{ name := "Amt",type := 3,offset := 2,embedded := false,tag := "",pkgPath := "",byteOffset := 16 }] : List Field).toArray := by unfold Program.fieldsOf;rw [Tryz.underlying120]
theorem ty.su120:Tryz.prog.underlying 120=some (.struct (Tryz.prog.fieldsOf 120)):=by rw[ty.sf120];exact Tryz.underlying120
theorem ty.sh120:Tryz.prog.stoodInHeld 120=false:=by kernel_rfl
theorem ty.sg120:Tryz.prog.eqGuardType Tryz.prog.depth 120=false:=by kernel_rfl
theorem sameLines_e(a:List Line)(hn:a.length≤9007199254740992):GC Tryz.prog 30 [.p (.lst 120 3 (rowsOf encLine a)),.p (.lst 120 3 (rowsOf encLine a))] [] (boo true) []:=by
 refine gi 4 Tryz.func30 rfl Tryz.ntmps30 rfl ?_
 intro L O w0
 refine sL<|laZ Z<|nG<|aS<|sL<|lmL Z<|lnI ty.sl32 Z<|lmL Z<|lnI ty.sl32 Z<|lbB Z<|nG ?_
 refine AW.cond rfl ?_ ?_
 ·intro h1
  refine sL<|laZ Z<|nG<|aR<|rT ?_
  refine eBo trivial ?_
  first|rfl|(exfalso;have h:=h1;simp[eqVals]at h;done)
 ·intro h1
  refine aK<|gT<|aS<|sL<|lmL Z<|lnI ty.sl32 Z<|lmI Z<|nG<|aB ?_
  refine aW [0,1,4,12] [] (D:=Nat) (fun k=>[(13,int (k:Int))]) (fun k=>[]) (fun k=>k≤a.length) (fun k=>a.length-k) (0) (Nat.zero_le _) ⟨rfl,trivial⟩ trivial ?_
  intro k hI
  refine sL<|lbB Z<|nG<|aS ?_
  refine AW.cond rfl ?_ ?_
  ·intro h2
   refine aK<|gT<|aS<|aB<|sL<|lmI Z<|laI Z<|nG<|aS<|aF []<|pq 0 (qmL Z)<|pq 1 (qmX (vI _ _) Z) ?_
   have hk:k<a.length:=by simpa[length_rowsOf]using h2
   refine sq 2 (ri k ty.el32 rfl (row_map hk))<|sq 3 (rrX (.agg [vI _ _,vI _ _,vI _ _]) ty.kd120 rfl)<|pq 4 (qmL rfl)<|vq 5 (rmI rfl)<|vq 6 (ri k ty.el32 rfl (row_map hk))<|vq 7 (rrX (.agg [vI _ _,vI _ _,vI _ _]) ty.kd120 rfl)<|vq 8 (rd (x:=vB _) (rd_eqN (a:=[_,_]) (b:=[_,_]) (r:=[_]) (r':=[_]) rfl (.inr rfl) rfl rfl ty.sf120 ty.su120 ty.sh120 ty.sg120 (by decide) rfl ty.su110 ty.sf110 ty.sh110 ty.co110 rfl ?hn1 ?hn2) rfl) ?_
   case hn1=>exact⟨rfl,by decide,rfl,⟨_,Tryz.underlying3⟩,rfl,by decide,rfl,⟨_,Tryz.underlying3⟩,trivial⟩
   case hn2=>exact⟨rfl,by decide,rfl,⟨_,Tryz.underlying3⟩,trivial⟩
   refine fD<|gT ?_
   refine AW.cond rfl ?_ ?_
   ·intro h3
    refine sL<|laZ Z<|nG<|aR<|rB<|rT<|rT<|rB<|rT ?_
    refine eBo trivial ?_
    first|rfl|(exfalso;have h:=h3;simp[eqVals]at h;done)
   ·intro h3
    refine aK<|gB<|gT<|aL<|lgI Z<|lmI Z<|nG ?_
    refine⟨k+1,hk,by omega,⟨(iq rfl),trivial⟩,trivial,rfl,rfl⟩
  ·intro h2
   refine aE<|eT<|eT<|eB<|gA<|laT Z<|nG<|aR ?_
   refine eBo trivial ?_
   first|rfl|(exfalso;have h:=h2;simp[eqVals]at h;done)

abbrev appW(x:Book)(e:Event):AV:=.tup [bookV (appB x e),posV (appP x e),int (applyC x e)]
theorem app_frozen{f:FuncId}{args:List AV}{x:Book}{e:Event}(h:GC Tryz.prog f args [] (appAV x e) (appOb x e)):GC Tryz.prog f args [] (appW x e) []:=
 (GX.frozen (Z:=fun y=>y=appW x e) (show GX Tryz.prog f args [] _ from h) fun y ob ⟨e1,e2⟩=>by
   subst e1 e2
   exact⟨appW x e,Still.tup (.cons (Still.agg (.cons (Still.p _) (.cons (Still.p _) (.cons (Still.p _) (.cons (Still.row (id:=11) (e:=⟨40,none⟩) (sz:=7) (rows:=rowsOf encChan (appB x e).chans) rfl) (.cons (Still.row (id:=12) (e:=⟨68,none⟩) (sz:=7) (rows:=rowsOf encHtlc (appB x e).htlcs) rfl) (.cons (Still.row (id:=13) (e:=⟨78,none⟩) (sz:=5) (rows:=rowsOf encCircle (appB x e).circles) rfl) .nil)))))))
    (.cons (Still.agg (.cons (Still.p _) (.cons (Still.row (id:=14) (e:=⟨120,none⟩) (sz:=3) (rows:=rowsOf encLine (appP x e).lines) rfl) .nil))) (.cons (Still.p _) .nil))),rfl⟩).mono fun y o ⟨e1,e2⟩=>⟨e2,e1⟩
theorem apply_f(x:Book)(e:Event)(hw:BookWf x):GC Tryz.prog 9 [bookV x,evV e] [] (appW x e) []:=app_frozen (apply_g x e hw)
theorem sapply_f(x:Book)(e:Event)(hw:BookWf x):GC Tryz.prog 10 [bookV x,evV e] [] (appW x e) []:=app_frozen (sapply_g x e hw)

theorem appP_len(x:Book)(e:Event):(appP x e).lines.length≤1000:=by
 by_cases q:applyC x e=0
 ·by_cases z:(workR x e).l=[]
  ·rw[(appB_nil q z).2];simp
  ·rw[(appB_yes q z).2]
   have:=(ln_work q).len
   show (workR _ _).l.length≤1000
   omega
 ·rw[(appB_no q).2];simp
theorem ps_len{x:Book}{es:List Event}(hb:bookOk x=true)(hn:es.length≤1000):(∀p∈(allA x es).ps,p.lines.length≤1000)∧(allA x es).ps.length≤1000000:=by
 have h1:=allS_ps_len (x:=x) (es:=es) es.length (Nat.le_refl _)
 have h2:=allS_ps (x:=x) (es:=es) es.length (Nat.le_refl _)
 rw[List.take_length,←allA_ok hb]at h1 h2
 exact⟨h1,by omega⟩
abbrev s25(es:List Event)(k:Nat):Book×Ledger:=(es.take k).foldl l25F (book25,ledg25)
theorem s25_succ{es:List Event}{k:Nat}(h:k<es.length):s25 es (k+1)=l25F (s25 es k) es[k]:=by
 unfold s25
 rw[List.take_succ_eq_append_getElem h,List.foldl_append]
 rfl
theorem wf_base:∀e∈base25,wfEvent e:=fun e he=>by
 simp[base25]at he
 rcases he with rfl|rfl|rfl|rfl<;>(unfold wfEvent i64;dsimp only;omega)
theorem len25:base25.length≤1000:=by simp[base25]
theorem len25':base25.length≤1048576:=by simp[base25]
theorem wf25:BookWf book25:=by
 rw[←base_now]
 exact allA_wf newBook_wf wf_base
theorem l25F_skip{s:Book×Ledger}{e:Event}(h:e.kind=3∨1000000<e.amt∨50<e.key):l25F s e=s:=if_pos h
theorem l25F_yes{s:Book×Ledger}{e:Event}(h:¬(e.kind=3∨1000000<e.amt∨50<e.key))(h1:applyC s.1 e=0)(h2:pC s.2 (appP s.1 e)=0):l25F s e=(appB s.1 e,pL s.2 (appP s.1 e)):=by unfold l25F;rw[if_neg h,if_pos ⟨h1,h2⟩]
theorem l25F_no{s:Book×Ledger}{e:Event}(h:¬(e.kind=3∨1000000<e.amt∨50<e.key))(h1:¬(applyC s.1 e=0∧pC s.2 (appP s.1 e)=0)):l25F s e=s:=by unfold l25F;rw[if_neg h,if_neg h1]
theorem pC_no{l:Ledger}{p:Posting}(h:¬0<p.id):pC l p=0∧pL l p=l:=by unfold pC pL;rw[if_neg h,if_neg h];exact⟨rfl,rfl⟩
theorem pC_yes{l:Ledger}{p:Posting}(h:0<p.id):pC l p=sPostC l p∧pL l p=sPostL l p:=by unfold pC pL;rw[if_pos h,if_pos h];exact⟨rfl,rfl⟩
theorem l25F_wf{s:Book×Ledger}{e:Event}(hw:BookWf s.1)(we:wfEvent e):BookWf (l25F s e).1:=by
 unfold l25F
 split
 ·exact hw
 ·split
  ·exact appB_wf hw we
  ·exact hw
theorem s25_wf{es:List Event}(we:∀e∈es,wfEvent e):∀k,k≤es.length→BookWf (s25 es k).1
 |0,_=>wf25
 |k+1,h=>by
  rw[s25_succ (by omega)]
  exact l25F_wf (s25_wf we k (by omega)) (we _ (List.getElem_mem _))
def Dr25:AV→Prop:=fun x=>∃b l,BookWf b∧Wl 50 b l 17∧x=.tup [bookV b,ledV l]
theorem l25Book_e(g:Value)(code:List Int)(i:Nat)(h:Int)(hc:CurOk code i):GX Tryz.prog 86 [.ptr 0 0 0] [(0,curO g code i h)] (DrR g code Dr25):=by
 refine GX.intro (rs:=[.cell 2 27 (some 6),.cell 3 54 (some 2)]) Tryz.func86 rfl Tryz.ntmps86 (Nat.le_of_ble_eq_true rfl) ⟨rfl,rfl,ty.kd27,rfl,rfl,ty.kd54,trivial⟩ ?_
 intro L O w0
 refine sL<|lst (zA 2002 ty.ze27 Z) Z<|lst (zA 2003 ty.ze54 Z) Z<|nA<|lmP Z ?_
 refine lX [(0,0),(50,50)] [50] [0] Tryz.func70 (l07Events_e g code _ _ (12) hc (by omega)) (⟨⟨0,rfl,rfl⟩,trivial⟩) (pins_curX) Z ?_
 intro xz1 oz1 hz1
 obtain⟨i1,q1,_,hc1,⟨es1,hes1,rfl,rfl⟩,rfl⟩:=hz1
 refine laO Z<|nA ?_
 refine AL.freeze 50 rfl ?_
 refine lq (rd (x:=.agg [vI _ _,vI _ _,vI _ _,vI _ _,vI _ _,vI _ _,vB false]) (rd_build rfl ty.sa29 rfl rfl rfl) rfl)<|lq (rd (x:=.agg [vI _ _,vI _ _,vI _ _,vI _ _,vI _ _,vI _ _,vB false]) (rd_build rfl ty.sa29 rfl rfl rfl) rfl)<|lq (rd (x:=.agg [vI _ _,vI _ _,vI _ _,vI _ _,vI _ _,vI _ _,vB false]) (rd_build rfl ty.sa29 rfl rfl rfl) rfl)<|lq (rd (x:=.agg [vI _ _,vI _ _,vI _ _,vI _ _,vI _ _,vI _ _,vB false]) (rd_build rfl ty.sa29 rfl rfl rfl) rfl)<|lst (zS 2024 (rowsOf encEvent base25) ty.el44 ty.ze29 rfl (by intro r hr;simp[rowsOf,base25]at hr;rcases hr with rfl|rfl|rfl|rfl<;>rfl)) Z<|laO Z<|nA ?_
 refine AL.freeze 2024 rfl ?_
 refine lst (zC [] [] [] Tryz.func16 (bookNew_e) (trivial) Z Z) Z<|lmL Z<|lst (zC [] [] [] Tryz.func87 (sapplyAll_f newBook base25 newBook_wf wf_base len25') (trivial) Z Z) Z<|lT [2,3,4,28] [0,2002,2003] ?_
 refine lmX (.tup [.agg [vI _ _,vI _ _,vI _ _,vL _ _ _,vL _ _ _,vL _ _ _],vL _ _ _,vL _ _ _]) Z<|lxX (.agg [vI _ _,vI _ _,vI _ _,vL _ _ _,vL _ _ _,vL _ _ _]) Z<|lxL Z<|lxL Z<|lst (zA 2006 ty.ze27 Z) Z<|lst (zB 2006 ty.co27 ty.inf27 Z) Z<|laL Z<|laL Z<|nA ?_
 have hps0:=ps_len (x:=newBook) (es:=base25) bookOk_new len25
 refine lq (rd (x:=.agg [vI _ _,vV _]) (rd_build Z ty.sa54 Z Z Z) Z)<|lmL Z<|lst (zC [] [] [] Tryz.func88 (spostAll0_e (allA newBook base25).ps hps0.1 hps0.2) (trivial) Z Z) Z<|lmX (.tup [.agg [vI _ _,vL _ _ _],vI _ _]) Z<|lxX (.agg [vI _ _,vL _ _ _]) Z<|lxI Z<|lst (zA 2009 ty.ze54 Z) Z<|lT [2,3,4,6,9,36,37] [0,2002,2003,2006,2009] ?_
 refine lst (zB 2009 ty.co54 ty.inf54 Z) Z<|laI Z<|nG<|aS<|sL<|lmL Z<|lnI ty.sl44 Z<|lmI Z<|nG<|aB ?_
 refine aW [2,3,6,9,38,39] [0,2002,2003] (D:=Nat) (fun k=>[(40,int (k:Int))]) (fun k=>[(2006,.box 27 none [int (s25 es1 k).1.tick,int (s25 es1 k).1.next,int (s25 es1 k).1.wallet,.p (.lst 40 7 (rowsOf encChan (s25 es1 k).1.chans)),.p (.lst 68 7 (rowsOf encHtlc (s25 es1 k).1.htlcs)),.p (.lst 78 5 (rowsOf encCircle (s25 es1 k).1.circles))]),(2009,.box 54 none [int (s25 es1 k).2.last,.p (.lst 120 3 (rowsOf encLine (s25 es1 k).2.lines))])]) (fun k=>k≤es1.length) (fun k=>es1.length-k) (0) (Nat.zero_le _) ⟨rfl,trivial⟩ ⟨(by rw[base_now];rfl),(by rw[base_led];rfl),trivial⟩ ?_
 intro k hI
 refine sL<|lbB Z<|nG<|aS ?_
 refine AW.cond rfl ?_ ?_
 ·intro h1
  refine aK<|gT<|aS<|aB<|sL ?_
  have hk:k<es1.length:=by simpa[length_rowsOf]using h1
  have hk17:(k:Int)<17:=by have:=hes1.2;omega
  refine li k ty.el44 Z (row_map hk)<|lrX (.agg [vI _ _,vI _ _,vI _ _,vI _ _,vI _ _,vI _ _,vB _]) ty.kd29 Z<|lst (zA 2012 ty.ze29 Z) Z<|lst (zB 2012 ty.co29 ty.inf29 Z) Z<|nG<|aS<|sL<|lf 0 ty.F29_0 Z<|loI ty.kd3 Z<|lbB Z<|lmB Z ?_
  refine AL.bool (t:=47) rfl ?_ ?_
  ·intro h2
   refine lno Z<|lno Z<|lno Z<|lkT Z<|lmT Z<|lno Z<|lno Z<|lno Z<|lkT Z<|nG<|aY Z<|aE<|eT<|eB<|gT<|aL<|lgI Z<|lmI Z<|nG ?_
   have hst:s25 es1 (k+1)=s25 es1 k:=by
    rw[s25_succ hk]
    exact l25F_skip (by have h:=h2;simp at h;omega)
   refine⟨k+1,hk,by omega,⟨(iq rfl),trivial⟩,⟨(by rw[hst];rfl),(by rw[hst];rfl),trivial⟩,rfl,rfl⟩
  ·intro h2
   refine lf 4 ty.F29_4 Z<|loI ty.kd3 Z<|lbB Z<|lkB Z<|lmB Z ?_
   refine AL.bool (t:=52) rfl ?_ ?_
   ·intro h3
    refine lno Z<|lno Z<|lno Z<|lkT Z<|nG<|aY Z<|aE<|eT<|eB<|gT<|aL<|lgI Z<|lmI Z<|nG ?_
    have hst:s25 es1 (k+1)=s25 es1 k:=by
     rw[s25_succ hk]
     exact l25F_skip (by have h:=h3;simp at h;omega)
    refine⟨k+1,hk,by omega,⟨(iq rfl),trivial⟩,⟨(by rw[hst];rfl),(by rw[hst];rfl),trivial⟩,rfl,rfl⟩
   ·intro h3
    refine lf 1 ty.F29_1 Z<|loI ty.kd3 Z<|lbB Z<|lT [2,3,6,9,12,38,39,40,52,55] [0,2002,2003,2006,2009,2012] ?_
    refine lkB Z<|nG ?_
    refine AW.cond rfl ?_ ?_
    ·intro h4
     refine aE<|eT<|eB<|gT<|aL<|lgI Z<|lmI Z<|nG ?_
     have hst:s25 es1 (k+1)=s25 es1 k:=by
      rw[s25_succ hk]
      exact l25F_skip (by have h:=h4;simp at h;omega)
     refine⟨k+1,hk,by omega,⟨(iq rfl),trivial⟩,⟨(by rw[hst];rfl),(by rw[hst];rfl),trivial⟩,rfl,rfl⟩
    ·intro h4
     refine aK<|gA<|loX (.agg [vI _ _,vI _ _,vI _ _,vL _ _ _,vL _ _ _,vL _ _ _]) ty.kd27 Z<|loX (.agg [vI _ _,vI _ _,vI _ _,vI _ _,vI _ _,vI _ _,vB _]) ty.kd29 Z<|lst (zC [] [] [] Tryz.func10 (sapply_f (s25 es1 k).1 es1[k] (s25_wf hes1.1 k (by omega))) (trivial) rfl rfl) Z<|lmX (.tup [.agg [vI _ _,vI _ _,vI _ _,vL _ _ _,vL _ _ _,vL _ _ _],.agg [vI _ _,vL _ _ _],vI _ _]) Z<|lxX (.agg [vI _ _,vI _ _,vI _ _,vL _ _ _,vL _ _ _,vL _ _ _]) Z<|lxX (.agg [vI _ _,vL _ _ _]) Z<|lxI Z<|lst (zA 2013 ty.ze27 rfl) Z<|lst (zA 2014 ty.ze34 rfl) Z<|lst (zB 2013 ty.co27 ty.inf27 rfl) Z<|lst (zB 2014 ty.co34 ty.inf34 rfl) Z<|lT [2,3,6,9,13,14,38,39,40,63] [0,2002,2003,2006,2009,2012,2013,2014] ?_
     refine laI Z<|nA<|loX (.agg [vI _ _,vL _ _ _]) ty.kd54 Z<|lst (zA 2016 ty.ze54 Z) Z<|lst (zB 2016 ty.co54 ty.inf54 Z) Z<|nA<|laI Z<|nG<|aS<|sL<|lf 0 ty.F34_0 Z<|loI ty.kd3 Z<|lbB Z<|nG ?_
     refine AW.cond rfl ?_ ?_
     ·intro h5
      refine aL<|loX (.agg [vI _ _,vL _ _ _]) ty.kd54 Z<|loX (.agg [vI _ _,vL _ _ _]) ty.kd34 Z<|lst (zC [] [] [] Tryz.func129 (spost_e (s25 es1 k).2 (appP (s25 es1 k).1 es1[k]) (appP_len _ _)) (trivial) Z Z) Z<|lmX (.tup [.agg [vI _ _,vL _ _ _],vI _ _]) Z<|lxX (.agg [vI _ _,vL _ _ _]) Z<|lxI Z<|lst (zB 2016 ty.co54 ty.inf54 Z) Z<|lT [2,3,6,9,13,15,16,17,38,39,40,73] [0,2002,2003,2006,2009,2012,2013,2014,2016] ?_
      refine laI Z<|nA<|lmI Z<|lbB Z<|lmB Z ?_
      refine AL.bool (t:=76) rfl ?_ ?_
      ·intro h6
       refine lmI Z<|lbB Z<|lkB Z<|nG ?_
       refine AW.cond rfl ?_ ?_
       ·intro h7
        refine sL<|loX (.agg [vI _ _,vI _ _,vI _ _,vL _ _ _,vL _ _ _,vL _ _ _]) ty.kd27 Z<|lst (zB 2006 ty.co27 ty.inf27 Z) Z<|nG<|aL<|loX (.agg [vI _ _,vL _ _ _]) ty.kd54 Z<|lst (zB 2009 ty.co54 ty.inf54 Z) Z<|lN<|gB<|gT<|aL<|lgI Z<|lmI Z<|nG ?_
        have hns:¬(es1[k].kind=3∨1000000<es1[k].amt∨50<es1[k].key):=by have a:=h2;have b:=h3;have c:=h4;simp at a b c;omega
        have hid:0<(appP (s25 es1 k).1 es1[k]).id:=by have h:=h5;simp at h;omega
        obtain⟨hpc,hpl⟩:=pC_yes (l:=(s25 es1 k).2) hid
        have hst:s25 es1 (k+1)=((appB (s25 es1 k).1 es1[k]),sPostL (s25 es1 k).2 (appP (s25 es1 k).1 es1[k])):=by
         rw[s25_succ hk,l25F_yes hns (by have h:=h6;simpa using h) (by rw[hpc];have h:=h7;simpa using h),hpl]
        refine⟨k+1,hk,by omega,⟨(iq rfl),trivial⟩,⟨(by rw[hst];rfl),(by rw[hst];rfl),trivial⟩,rfl,rfl⟩
       ·intro h7
        refine aK<|gB<|gT<|aL<|lgI Z<|lmI Z<|nG ?_
        have hns:¬(es1[k].kind=3∨1000000<es1[k].amt∨50<es1[k].key):=by have a:=h2;have b:=h3;have c:=h4;simp at a b c;omega
        have hid:0<(appP (s25 es1 k).1 es1[k]).id:=by have h:=h5;simp at h;omega
        obtain⟨hpc,hpl⟩:=pC_yes (l:=(s25 es1 k).2) hid
        have hst:s25 es1 (k+1)=s25 es1 k:=by
         rw[s25_succ hk]
         exact l25F_no hns (by rintro⟨a,b⟩;rw[hpc]at b;have h:=h7;simp[a,b]at h)
        refine⟨k+1,hk,by omega,⟨(iq rfl),trivial⟩,⟨(by rw[hst];rfl),(by rw[hst];rfl),trivial⟩,rfl,rfl⟩
      ·intro h6
       refine lno Z<|lno Z<|lkZ Z<|nG<|aN Z<|aK<|gB<|gT<|aL<|lgI Z<|lmI Z<|nG ?_
       have hns:¬(es1[k].kind=3∨1000000<es1[k].amt∨50<es1[k].key):=by have a:=h2;have b:=h3;have c:=h4;simp at a b c;omega
       have hid:0<(appP (s25 es1 k).1 es1[k]).id:=by have h:=h5;simp at h;omega
       obtain⟨hpc,hpl⟩:=pC_yes (l:=(s25 es1 k).2) hid
       have hst:s25 es1 (k+1)=s25 es1 k:=by
        rw[s25_succ hk]
        exact l25F_no hns (by rintro⟨a,b⟩;rw[hpc]at b;have h:=h6;simp[a,b]at h)
       refine⟨k+1,hk,by omega,⟨(iq rfl),trivial⟩,⟨(by rw[hst];rfl),(by rw[hst];rfl),trivial⟩,rfl,rfl⟩
     ·intro h5
      refine aK<|gA<|lmI Z<|lbB Z<|lmB Z ?_
      refine AL.bool (t:=76) rfl ?_ ?_
      ·intro h8
       refine lmI Z<|lbB Z<|lkB Z<|nG ?_
       refine AW.cond rfl ?_ ?_
       ·intro h9
        refine sL<|loX (.agg [vI _ _,vI _ _,vI _ _,vL _ _ _,vL _ _ _,vL _ _ _]) ty.kd27 Z<|lst (zB 2006 ty.co27 ty.inf27 Z) Z<|lT [2,3,6,9,16,38,39,40] [0,2002,2003,2006,2009,2012,2013,2014,2016] ?_
        refine nG<|aL<|loX (.agg [vI _ _,vL _ _ _]) ty.kd54 Z<|lst (zB 2009 ty.co54 ty.inf54 Z) Z<|lN<|gB<|gT<|aL<|lgI Z<|lmI Z<|nG ?_
        have hns:¬(es1[k].kind=3∨1000000<es1[k].amt∨50<es1[k].key):=by have a:=h2;have b:=h3;have c:=h4;simp at a b c;omega
        have hid:¬0<(appP (s25 es1 k).1 es1[k]).id:=by have h:=h5;simp at h;omega
        obtain⟨hpc,hpl⟩:=pC_no (l:=(s25 es1 k).2) hid
        have hst:s25 es1 (k+1)=((appB (s25 es1 k).1 es1[k]),(s25 es1 k).2):=by
         rw[s25_succ hk,l25F_yes hns (by have h:=h8;simpa using h) hpc,hpl]
        refine⟨k+1,hk,by omega,⟨(iq rfl),trivial⟩,⟨(by rw[hst];rfl),(by rw[hst];rfl),trivial⟩,rfl,rfl⟩
       ·intro h9
        refine aK<|gB<|gT<|aL<|lgI Z<|lmI Z<|nG ?_
        have hns:¬(es1[k].kind=3∨1000000<es1[k].amt∨50<es1[k].key):=by have a:=h2;have b:=h3;have c:=h4;simp at a b c;omega
        have hid:¬0<(appP (s25 es1 k).1 es1[k]).id:=by have h:=h5;simp at h;omega
        obtain⟨hpc,hpl⟩:=pC_no (l:=(s25 es1 k).2) hid
        have hst:s25 es1 (k+1)=s25 es1 k:=by
         rw[s25_succ hk]
         exact l25F_no hns (by rintro⟨a,b⟩;rw[hpc]at b;have h:=h9;simp[a,b]at h)
        refine⟨k+1,hk,by omega,⟨(iq rfl),trivial⟩,⟨(by rw[hst];rfl),(by rw[hst];rfl),trivial⟩,rfl,rfl⟩
      ·intro h8
       refine lno Z<|lno Z<|lkZ Z<|nG<|aN Z<|aK<|gB<|gT<|aL<|lgI Z<|lmI Z<|nG ?_
       have hns:¬(es1[k].kind=3∨1000000<es1[k].amt∨50<es1[k].key):=by have a:=h2;have b:=h3;have c:=h4;simp at a b c;omega
       have hid:¬0<(appP (s25 es1 k).1 es1[k]).id:=by have h:=h5;simp at h;omega
       obtain⟨hpc,hpl⟩:=pC_no (l:=(s25 es1 k).2) hid
       have hst:s25 es1 (k+1)=s25 es1 k:=by
        rw[s25_succ hk]
        exact l25F_no hns (by rintro⟨a,b⟩;rw[hpc]at b;have h:=h8;simp[a,b]at h)
       refine⟨k+1,hk,by omega,⟨(iq rfl),trivial⟩,⟨(by rw[hst];rfl),(by rw[hst];rfl),trivial⟩,rfl,rfl⟩
 ·intro h1
  refine aE<|eT<|eT<|eB<|gT<|aS<|aG 3 [2002]<|tq 0 (roX (.agg [vI _ _,vI _ _,vI _ _,vL _ _ _,vL _ _ _,vL _ _ _]) ty.kd27 Z)<|tq 1 (roX (.agg [vI _ _,vL _ _ _]) ty.kd54 Z)<|yst 2 Z (zB 2002 ty.co27 ty.inf27 Z)<|yl Z (zB 2003 ty.co54 ty.inf54 Z)<|gT<|aR ?_
  have hke:k=es1.length:=by have h:=h1;simp[length_rowsOf]at h;omega
  have hw25:=s25_wf hes1.1 k (by omega)
  have hl0:=l25_all (s:=(book25,ledg25)) base_wl (es:=es1) k (by omega)
  have hl25:=hl0.mono (m:=17) (by have:=hes1.2;omega)
  refine end_xret ((.tup [bookV (s25 es1 k).1,ledV (s25 es1 k).2])) [(0,curO g code _ _)] ?_ rfl ⟨rfl,trivial⟩
  exact⟨_,_,hc1,⟨_,_,hw25,hl25,rfl⟩,rfl⟩
def DrLau:AV→List (Nat×AO)→Prop:=fun x ob=>ob=[]∧∃b l ch to amt fee,wfEvent ⟨9,77,ch,to,amt,fee,false⟩∧BookWf b∧Wl 50 b l 17∧(1≤amt∧amt≤4000)∧(0≤fee∧fee≤300)∧applyC b ⟨9,77,ch,to,amt,fee,false⟩=0∧x=.tup [bookV b,ledV l,evV ⟨9,77,ch,to,amt,fee,false⟩]
theorem makeLaunch_e(code:List Int)(hm:code.length≤1048576):GX Tryz.prog 31 [.p (.lst 5 1 (rowsOf encU8 code))] [] (DrLau):=by
 refine GX.intro (rs:=[.cell 2 27 (some 6),.cell 3 54 (some 2),.cell 4 29 (some 7)]) Tryz.func31 rfl Tryz.ntmps31 (Nat.le_of_ble_eq_true rfl) ⟨rfl,rfl,ty.kd27,rfl,rfl,ty.kd54,rfl,rfl,ty.kd29,trivial⟩ ?_
 intro L O w0
 refine sL<|lst (zA 2002 ty.ze27 Z) Z<|lst (zA 2003 ty.ze54 Z) Z<|lst (zA 2004 ty.ze29 Z) Z<|nA<|lmL Z ?_
 refine lX [(31,0)] [0] [] Tryz.func32 (l01New_e code hm) (trivial) (fun _ _ _=>trivial) Z ?_
 intro xz1 oz1 hz1
 obtain⟨q1,rfl,rfl⟩:=hz1
 refine laP Z<|nA<|lmP Z ?_
 refine AL.pinB 0 rfl ?_
 intro g
 have hc:CurOk code 0:=⟨Nat.zero_le _,hm⟩
 refine lX [(0,0)] [] [0] Tryz.func86 (l25Book_e g code _ _ hc) (⟨⟨0,rfl,rfl⟩,trivial⟩) (pins_cur) Z ?_
 intro xz2 oz2 hz2
 obtain⟨i2,q2,hc2,⟨wb2,wl2,hwb2,hwl2,rfl⟩,rfl⟩:=hz2
 refine lmX (.tup [.agg [vI _ _,vI _ _,vI _ _,vL _ _ _,vL _ _ _,vL _ _ _],.agg [vI _ _,vL _ _ _]]) Z<|lxX (.agg [vI _ _,vI _ _,vI _ _,vL _ _ _,vL _ _ _,vL _ _ _]) Z<|lxX (.agg [vI _ _,vL _ _ _]) Z<|lst (zA 2006 ty.ze27 Z) Z<|lst (zA 2007 ty.ze54 Z) Z<|lst (zB 2006 ty.co27 ty.inf27 Z) Z<|lT [2,3,4,5,6,7,23] [0,2002,2003,2004,2006,2007] ?_
 refine lst (zB 2007 ty.co54 ty.inf54 Z) Z<|nA<|lmP Z ?_
 refine lX [(0,0)] [] [0] Tryz.func35 (l01Below_e g code _ _ _ hc2) (⟨⟨0,rfl,rfl⟩,trivial⟩) (pins_cur) Z ?_
 intro xz3 oz3 hz3
 obtain⟨i3,q3,hc3,⟨n3,⟨na3,nb3⟩,rfl⟩,rfl⟩:=hz3
 refine lgI Z<|lmP Z ?_
 refine lX [(0,0)] [] [0] Tryz.func35 (l01Below_e g code _ _ _ hc3) (⟨⟨0,rfl,rfl⟩,trivial⟩) (pins_cur) Z ?_
 intro xz4 oz4 hz4
 obtain⟨i4,q4,hc4,⟨n4,⟨na4,nb4⟩,rfl⟩,rfl⟩:=hz4
 refine lgI Z<|lmP Z ?_
 refine lX [(0,0)] [] [0] Tryz.func35 (l01Below_e g code _ _ _ hc4) (⟨⟨0,rfl,rfl⟩,trivial⟩) (pins_cur) Z ?_
 intro xz5 oz5 hz5
 obtain⟨i5,q5,hc5,⟨n5,⟨na5,nb5⟩,rfl⟩,rfl⟩:=hz5
 refine lq (rd (x:=.agg [vI _ _,vI _ _,vI _ _,vI _ _,vI _ _,vI _ _,vB false]) (rd_build Z ty.sa29 Z Z Z) Z)<|lst (zA 2008 ty.ze29 Z) Z<|lst (zB 2008 ty.co29 ty.inf29 Z) Z<|nG<|aS<|aG 8 [0]<|tq 0 (rf 2 ty.F29_2 Z)<|tq 1 (roI ty.kd3 Z)<|yq 2 (rmP Z) ?_
 refine AG.stx (i:=3) rfl (by kernel_rfl) (St.callX [(0,0)] [] [0] rfl (by intro s hs;cases hs;decide) rfl Tryz.func35 rfl rfl (l01Below_e g code _ _ _ hc5) ⟨rfl,rfl,rfl⟩ (⟨⟨0,rfl,rfl⟩,trivial⟩) (pins_cur) rfl) (exK (l:=[0]) rfl rfl) rfl ?_
 rintro _ _ ⟨xz7,oz7,hz7,rfl,rfl⟩
 obtain⟨i7,q7,hc7,⟨n7,⟨na7,nb7⟩,rfl⟩,rfl⟩:=hz7
 refine gX [2,3,4,6,7,8,34,36] [0,2002,2003,2004,2006,2007,2008] ?_
 refine yq 4 (rgI rfl (by unfold i64;omega)) ?_
 refine yq 5 (rhI rfl ⟨rfl,by decide⟩) ?_
 have htm:=tmod3 (1+n3+n7)
 refine yq 6 (rgI rfl (by unfold i64;omega))<|yq 7 (rf 3 ty.F29_3 rfl)<|yl rfl (zB 2008 ty.co3 ty.inf3 rfl)<|gA ?_
 have hch:1≤1+n3∧1+n3≤3:=by omega
 have htv:(1+n3+n7).tmod 3=(1+n3+n7)%3:=Int.tmod_eq_emod_of_nonneg (by omega)
 have hto:1≤(1+(1+n3+n7).tmod 3)∧(1+(1+n3+n7).tmod 3)≤3:=by omega
 have hne:1+n3≠(1+(1+n3+n7).tmod 3):=by omega
 have ham:1≤1+n4∧1+n4≤4000:=by omega
 have hfe:0≤n5∧n5≤300:=by omega
 have hwv:wfEvent ⟨9,77,(1+n3),(1+(1+n3+n7).tmod 3),(1+n4),n5,false⟩:=by unfold wfEvent i64;dsimp only;omega
 refine loX (.agg [vI _ _,vI _ _,vI _ _,vL _ _ _,vL _ _ _,vL _ _ _]) ty.kd27 Z<|loX (.agg [vI _ _,vI _ _,vI _ _,vI _ _,vI _ _,vI _ _,vB false]) ty.kd29 Z ?_
 refine lst (zC [] [] [] Tryz.func10 (sapply_f wb2 ⟨9,77,(1+n3),(1+(1+n3+n7).tmod 3),(1+n4),n5,false⟩ hwb2) (trivial) rfl rfl) Z<|lmX (.tup [.agg [vI _ _,vI _ _,vI _ _,vL _ _ _,vL _ _ _,vL _ _ _],.agg [vI _ _,vL _ _ _],vI _ _]) Z<|lxX (.agg [vI _ _,vI _ _,vI _ _,vL _ _ _,vL _ _ _,vL _ _ _]) Z<|lxX (.agg [vI _ _,vL _ _ _]) Z<|lxI Z<|lst (zA 2009 ty.ze27 rfl) Z<|lst (zA 2010 ty.ze34 rfl) Z<|lT [2,3,4,6,7,8,9,10,45,46,47] [0,2002,2003,2004,2006,2007,2008,2009,2010] ?_
 refine lst (zB 2009 ty.co27 ty.inf27 Z) Z<|lst (zB 2010 ty.co34 ty.inf34 Z) Z<|laI Z<|nG<|aS<|sL<|lmI Z<|lbB Z<|nG ?_
 refine AW.cond rfl ?_ ?_
 ·intro h1
  refine aS<|aF [15]<|sq 1 (rd (x:=.agg [vI _ _,vI _ _,vI _ _,vI _ _,vI _ _,vI _ _,vB false]) (rd_build Z ty.sa29 Z Z Z) Z)<|pq 2 (qf 2 ty.F29_2 Z)<|sq 3 (roI ty.kd3 Z)<|sq 4 (rd (x:=.agg [vI _ _,vI _ _,vI _ _,vI _ _,vI _ _,vI _ _,vB false]) (rd_build Z ty.sa29 Z Z Z) Z)<|pq 5 (qf 3 ty.F29_3 Z)<|sq 6 (roI ty.kd3 Z)<|sq 7 (rd (x:=.agg [vI _ _,vI _ _,vI _ _,vI _ _,vI _ _,vI _ _,vB false]) (rd_build Z ty.sa29 Z Z Z) Z) ?_
  refine AF.three (i:=0) (j:=8) (k:=14) (by kernel_rfl) ?_ ?_ ?_
  ·refine v1 0 rfl (zC [] [] [] Tryz.func16 (bookNew_e) (trivial) rfl rfl) (.inr rfl) ?_
   refine AF.two (i:=8) (j:=14) (by kernel_rfl) ?_ ?_
   ·refine v1 8 rfl (zS 2059 (rowsOf encEvent (evs3 (1+n3) (1+(1+n3+n7).tmod 3))) ty.el44 ty.ze29 rfl (by intro r hr;simp[rowsOf,evs3]at hr;rcases hr with rfl|rfl|rfl<;>rfl)) (.inr rfl)<|fT [2,3,4,6,7,8,51,59] [0,2002,2003,2004,2006,2007,2008,2009,2010,2059] ?_
    refine AF.freeze 2059 rfl ?_
    refine AF.two (i:=9) (j:=14) (by kernel_rfl) ?_ ?_
    ·have hwe:∀e∈(evs3 (1+n3) (1+(1+n3+n7).tmod 3)),wfEvent e:=by
      intro e he
      simp[evs3]at he
      rcases he with rfl|rfl|rfl<;>(unfold wfEvent i64;dsimp only;omega)
     have hel:(evs3 (1+n3) (1+(1+n3+n7).tmod 3)).length≤1048576:=by simp[evs3]
     have hps0:=ps_len (x:=newBook) (es:=(evs3 (1+n3) (1+(1+n3+n7).tmod 3))) bookOk_new (by simp[evs3])
     refine v1 9 Z (zC [] [] [] Tryz.func87 (sapplyAll_f newBook (evs3 (1+n3) (1+(1+n3+n7).tmod 3)) newBook_wf hwe hel) (trivial) Z Z) (.inr Z)<|pq 10 (qmX (.tup [.agg [vI _ _,vI _ _,vI _ _,vL _ _ _,vL _ _ _,vL _ _ _],vL _ _ _,vL _ _ _]) Z)<|pq 11 (qxX (.agg [vI _ _,vI _ _,vI _ _,vL _ _ _,vL _ _ _,vL _ _ _]) Z)<|pq 12 (qxX (vL _ _ _) Z)<|pq 13 (qxX (vL _ _ _) Z)<|vst 14 Z (zA 2012 ty.ze27 Z) (.inr Z)<|vst 15 Z (zB 2012 ty.co27 ty.inf27 Z) (.inl Z)<|vq 16 (raL Z)<|vq 17 (raL Z)<|fD<|gA<|lq (rd (x:=.agg [vI _ _,vV _]) (rd_build Z ty.sa54 Z Z Z) Z)<|lmL Z<|lst (zC [] [] [] Tryz.func88 (spostAll0_e (allA newBook (evs3 (1+n3) (1+(1+n3+n7).tmod 3))).ps hps0.1 hps0.2) (trivial) Z Z) Z<|lmX (.tup [.agg [vI _ _,vL _ _ _],vI _ _]) Z<|lxX (.agg [vI _ _,vL _ _ _]) Z<|lxI Z<|lst (zA 2015 ty.ze54 Z) Z<|lT [2,3,4,6,7,8,12,15,68,69] [0,2002,2003,2004,2006,2007,2008,2009,2010,2012,2015] ?_
     refine lst (zB 2015 ty.co54 ty.inf54 Z) Z<|laI Z<|nG<|aS<|aG 5 [2002,2003]<|tq 0 (roX (.agg [vI _ _,vI _ _,vI _ _,vL _ _ _,vL _ _ _,vL _ _ _]) ty.kd27 Z)<|tq 1 (roX (.agg [vI _ _,vL _ _ _]) ty.kd54 Z)<|tq 2 (roX (.agg [vI _ _,vI _ _,vI _ _,vI _ _,vI _ _,vI _ _,vB false]) ty.kd29 Z)<|yst 3 Z (zB 2002 ty.co27 ty.inf27 Z)<|yst 4 Z (zB 2003 ty.co54 ty.inf54 Z)<|yl Z (zB 2004 ty.co29 ty.inf29 Z)<|gT<|aR<|rT ?_
     obtain⟨f1,f2⟩:=fall_lau hch hto hne ham hfe
     refine end_xret ((.tup [bookV (allA newBook (evs3 (1+n3) (1+(1+n3+n7).tmod 3))).now,ledV (sPostS ⟨0,[]⟩ (allA newBook (evs3 (1+n3) (1+(1+n3+n7).tmod 3))).ps).1,evV ⟨9,77,(1+n3),(1+(1+n3+n7).tmod 3),(1+n4),n5,false⟩])) [] ?_ rfl trivial
     exact⟨rfl,_,_,_,_,_,n5,hwv,allA_wf newBook_wf hwe,f1.mono (by omega),ham,hfe,f2,rfl⟩
    ·refine v1 14 rfl (zA 2012 ty.ze27 rfl) (.inr rfl) ?_
     have hwe:∀e∈(evs3 (1+n3) (1+(1+n3+n7).tmod 3)),wfEvent e:=by
      intro e he
      simp[evs3]at he
      rcases he with rfl|rfl|rfl<;>(unfold wfEvent i64;dsimp only;omega)
     have hel:(evs3 (1+n3) (1+(1+n3+n7).tmod 3)).length≤1048576:=by simp[evs3]
     have hps0:=ps_len (x:=newBook) (es:=(evs3 (1+n3) (1+(1+n3+n7).tmod 3))) bookOk_new (by simp[evs3])
     refine vst 9 Z (zC [] [] [] Tryz.func87 (sapplyAll_f newBook (evs3 (1+n3) (1+(1+n3+n7).tmod 3)) newBook_wf hwe hel) (trivial) Z Z) (.inr Z)<|vq 10 (rmX (.tup [.agg [vI _ _,vI _ _,vI _ _,vL _ _ _,vL _ _ _,vL _ _ _],vL _ _ _,vL _ _ _]) Z)<|pq 11 (qxX (.agg [vI _ _,vI _ _,vI _ _,vL _ _ _,vL _ _ _,vL _ _ _]) Z)<|pq 12 (qxX (vL _ _ _) Z)<|pq 13 (qxX (vL _ _ _) Z)<|vst 15 Z (zB 2012 ty.co27 ty.inf27 Z) (.inl Z)<|fT [2,3,4,6,7,8,12,62,63] [0,2002,2003,2004,2006,2007,2008,2009,2010,2012] ?_
     refine vq 16 (raL Z)<|vq 17 (raL Z)<|fD<|gA<|lq (rd (x:=.agg [vI _ _,vV _]) (rd_build Z ty.sa54 Z Z Z) Z)<|lmL Z<|lst (zC [] [] [] Tryz.func88 (spostAll0_e (allA newBook (evs3 (1+n3) (1+(1+n3+n7).tmod 3))).ps hps0.1 hps0.2) (trivial) Z Z) Z<|lmX (.tup [.agg [vI _ _,vL _ _ _],vI _ _]) Z<|lxX (.agg [vI _ _,vL _ _ _]) Z<|lxI Z<|lst (zA 2015 ty.ze54 Z) Z<|lst (zB 2015 ty.co54 ty.inf54 Z) Z<|laI Z<|nG<|aS<|aG 5 [2002,2003]<|tq 0 (roX (.agg [vI _ _,vI _ _,vI _ _,vL _ _ _,vL _ _ _,vL _ _ _]) ty.kd27 Z)<|tq 1 (roX (.agg [vI _ _,vL _ _ _]) ty.kd54 Z)<|tq 2 (roX (.agg [vI _ _,vI _ _,vI _ _,vI _ _,vI _ _,vI _ _,vB false]) ty.kd29 Z)<|yst 3 Z (zB 2002 ty.co27 ty.inf27 Z)<|gX [2,3,4,6,7,8,71,72] [0,2002,2003,2004,2006,2007,2008,2009,2010,2012,2015] ?_
     refine yst 4 Z (zB 2003 ty.co54 ty.inf54 Z)<|yl Z (zB 2004 ty.co29 ty.inf29 Z)<|gT<|aR<|rT ?_
     obtain⟨f1,f2⟩:=fall_lau hch hto hne ham hfe
     refine end_xret ((.tup [bookV (allA newBook (evs3 (1+n3) (1+(1+n3+n7).tmod 3))).now,ledV (sPostS ⟨0,[]⟩ (allA newBook (evs3 (1+n3) (1+(1+n3+n7).tmod 3))).ps).1,evV ⟨9,77,(1+n3),(1+(1+n3+n7).tmod 3),(1+n4),n5,false⟩])) [] ?_ rfl trivial
     exact⟨rfl,_,_,_,_,_,n5,hwv,allA_wf newBook_wf hwe,f1.mono (by omega),ham,hfe,f2,rfl⟩
   ·refine v1 14 rfl (zA 2012 ty.ze27 rfl) (.inr rfl)<|vst 8 rfl (zS 2059 (rowsOf encEvent (evs3 (1+n3) (1+(1+n3+n7).tmod 3))) ty.el44 ty.ze29 rfl (by intro r hr;simp[rowsOf,evs3]at hr;rcases hr with rfl|rfl|rfl<;>rfl)) (.inr rfl) ?_
    have hwe:∀e∈(evs3 (1+n3) (1+(1+n3+n7).tmod 3)),wfEvent e:=by
     intro e he
     simp[evs3]at he
     rcases he with rfl|rfl|rfl<;>(unfold wfEvent i64;dsimp only;omega)
    have hel:(evs3 (1+n3) (1+(1+n3+n7).tmod 3)).length≤1048576:=by simp[evs3]
    have hps0:=ps_len (x:=newBook) (es:=(evs3 (1+n3) (1+(1+n3+n7).tmod 3))) bookOk_new (by simp[evs3])
    refine AF.freeze 2059 rfl ?_
    refine vst 9 Z (zC [] [] [] Tryz.func87 (sapplyAll_f newBook (evs3 (1+n3) (1+(1+n3+n7).tmod 3)) newBook_wf hwe hel) (trivial) Z Z) (.inr Z)<|vq 10 (rmX (.tup [.agg [vI _ _,vI _ _,vI _ _,vL _ _ _,vL _ _ _,vL _ _ _],vL _ _ _,vL _ _ _]) Z)<|pq 11 (qxX (.agg [vI _ _,vI _ _,vI _ _,vL _ _ _,vL _ _ _,vL _ _ _]) Z)<|pq 12 (qxX (vL _ _ _) Z)<|pq 13 (qxX (vL _ _ _) Z)<|vst 15 Z (zB 2012 ty.co27 ty.inf27 Z) (.inl Z)<|vq 16 (raL Z)<|vq 17 (raL Z)<|fD<|gA<|lq (rd (x:=.agg [vI _ _,vV _]) (rd_build Z ty.sa54 Z Z Z) Z)<|lmL Z<|lst (zC [] [] [] Tryz.func88 (spostAll0_e (allA newBook (evs3 (1+n3) (1+(1+n3+n7).tmod 3))).ps hps0.1 hps0.2) (trivial) Z Z) Z<|lT [2,3,4,6,7,8,12,67] [0,2002,2003,2004,2006,2007,2008,2009,2010,2012] ?_
    refine lmX (.tup [.agg [vI _ _,vL _ _ _],vI _ _]) Z<|lxX (.agg [vI _ _,vL _ _ _]) Z<|lxI Z<|lst (zA 2015 ty.ze54 Z) Z<|lst (zB 2015 ty.co54 ty.inf54 Z) Z<|laI Z<|nG<|aS<|aG 5 [2002,2003]<|tq 0 (roX (.agg [vI _ _,vI _ _,vI _ _,vL _ _ _,vL _ _ _,vL _ _ _]) ty.kd27 Z)<|tq 1 (roX (.agg [vI _ _,vL _ _ _]) ty.kd54 Z)<|tq 2 (roX (.agg [vI _ _,vI _ _,vI _ _,vI _ _,vI _ _,vI _ _,vB false]) ty.kd29 Z)<|yst 3 Z (zB 2002 ty.co27 ty.inf27 Z)<|yst 4 Z (zB 2003 ty.co54 ty.inf54 Z)<|yl Z (zB 2004 ty.co29 ty.inf29 Z)<|gT<|aR<|rT ?_
    obtain⟨f1,f2⟩:=fall_lau hch hto hne ham hfe
    refine end_xret ((.tup [bookV (allA newBook (evs3 (1+n3) (1+(1+n3+n7).tmod 3))).now,ledV (sPostS ⟨0,[]⟩ (allA newBook (evs3 (1+n3) (1+(1+n3+n7).tmod 3))).ps).1,evV ⟨9,77,(1+n3),(1+(1+n3+n7).tmod 3),(1+n4),n5,false⟩])) [] ?_ rfl trivial
    exact⟨rfl,_,_,_,_,_,n5,hwv,allA_wf newBook_wf hwe,f1.mono (by omega),ham,hfe,f2,rfl⟩
  ·refine v1 8 rfl (zS 2059 (rowsOf encEvent (evs3 (1+n3) (1+(1+n3+n7).tmod 3))) ty.el44 ty.ze29 rfl (by intro r hr;simp[rowsOf,evs3]at hr;rcases hr with rfl|rfl|rfl<;>rfl)) (.inr rfl) ?_
   refine AF.two (i:=0) (j:=14) (by kernel_rfl) ?_ ?_
   ·refine v1 0 Z (zC [] [] [] Tryz.func16 (bookNew_e) (trivial) Z Z) (.inr Z)<|fT [2,3,4,6,7,8,51,59] [0,2002,2003,2004,2006,2007,2008,2009,2010,2059] ?_
    refine AF.freeze 2059 rfl ?_
    refine AF.two (i:=9) (j:=14) (by kernel_rfl) ?_ ?_
    ·have hwe:∀e∈(evs3 (1+n3) (1+(1+n3+n7).tmod 3)),wfEvent e:=by
      intro e he
      simp[evs3]at he
      rcases he with rfl|rfl|rfl<;>(unfold wfEvent i64;dsimp only;omega)
     have hel:(evs3 (1+n3) (1+(1+n3+n7).tmod 3)).length≤1048576:=by simp[evs3]
     have hps0:=ps_len (x:=newBook) (es:=(evs3 (1+n3) (1+(1+n3+n7).tmod 3))) bookOk_new (by simp[evs3])
     refine v1 9 Z (zC [] [] [] Tryz.func87 (sapplyAll_f newBook (evs3 (1+n3) (1+(1+n3+n7).tmod 3)) newBook_wf hwe hel) (trivial) Z Z) (.inr Z)<|pq 10 (qmX (.tup [.agg [vI _ _,vI _ _,vI _ _,vL _ _ _,vL _ _ _,vL _ _ _],vL _ _ _,vL _ _ _]) Z)<|pq 11 (qxX (.agg [vI _ _,vI _ _,vI _ _,vL _ _ _,vL _ _ _,vL _ _ _]) Z)<|pq 12 (qxX (vL _ _ _) Z)<|pq 13 (qxX (vL _ _ _) Z)<|vst 14 Z (zA 2012 ty.ze27 Z) (.inr Z)<|vst 15 Z (zB 2012 ty.co27 ty.inf27 Z) (.inl Z)<|vq 16 (raL Z)<|vq 17 (raL Z)<|fD<|gA<|lq (rd (x:=.agg [vI _ _,vV _]) (rd_build Z ty.sa54 Z Z Z) Z)<|lmL Z<|lst (zC [] [] [] Tryz.func88 (spostAll0_e (allA newBook (evs3 (1+n3) (1+(1+n3+n7).tmod 3))).ps hps0.1 hps0.2) (trivial) Z Z) Z<|lmX (.tup [.agg [vI _ _,vL _ _ _],vI _ _]) Z<|lxX (.agg [vI _ _,vL _ _ _]) Z<|lxI Z<|lst (zA 2015 ty.ze54 Z) Z<|lT [2,3,4,6,7,8,12,15,68,69] [0,2002,2003,2004,2006,2007,2008,2009,2010,2012,2015] ?_
     refine lst (zB 2015 ty.co54 ty.inf54 Z) Z<|laI Z<|nG<|aS<|aG 5 [2002,2003]<|tq 0 (roX (.agg [vI _ _,vI _ _,vI _ _,vL _ _ _,vL _ _ _,vL _ _ _]) ty.kd27 Z)<|tq 1 (roX (.agg [vI _ _,vL _ _ _]) ty.kd54 Z)<|tq 2 (roX (.agg [vI _ _,vI _ _,vI _ _,vI _ _,vI _ _,vI _ _,vB false]) ty.kd29 Z)<|yst 3 Z (zB 2002 ty.co27 ty.inf27 Z)<|yst 4 Z (zB 2003 ty.co54 ty.inf54 Z)<|yl Z (zB 2004 ty.co29 ty.inf29 Z)<|gT<|aR<|rT ?_
     obtain⟨f1,f2⟩:=fall_lau hch hto hne ham hfe
     refine end_xret ((.tup [bookV (allA newBook (evs3 (1+n3) (1+(1+n3+n7).tmod 3))).now,ledV (sPostS ⟨0,[]⟩ (allA newBook (evs3 (1+n3) (1+(1+n3+n7).tmod 3))).ps).1,evV ⟨9,77,(1+n3),(1+(1+n3+n7).tmod 3),(1+n4),n5,false⟩])) [] ?_ rfl trivial
     exact⟨rfl,_,_,_,_,_,n5,hwv,allA_wf newBook_wf hwe,f1.mono (by omega),ham,hfe,f2,rfl⟩
    ·refine v1 14 rfl (zA 2012 ty.ze27 rfl) (.inr rfl) ?_
     have hwe:∀e∈(evs3 (1+n3) (1+(1+n3+n7).tmod 3)),wfEvent e:=by
      intro e he
      simp[evs3]at he
      rcases he with rfl|rfl|rfl<;>(unfold wfEvent i64;dsimp only;omega)
     have hel:(evs3 (1+n3) (1+(1+n3+n7).tmod 3)).length≤1048576:=by simp[evs3]
     have hps0:=ps_len (x:=newBook) (es:=(evs3 (1+n3) (1+(1+n3+n7).tmod 3))) bookOk_new (by simp[evs3])
     refine vst 9 Z (zC [] [] [] Tryz.func87 (sapplyAll_f newBook (evs3 (1+n3) (1+(1+n3+n7).tmod 3)) newBook_wf hwe hel) (trivial) Z Z) (.inr Z)<|vq 10 (rmX (.tup [.agg [vI _ _,vI _ _,vI _ _,vL _ _ _,vL _ _ _,vL _ _ _],vL _ _ _,vL _ _ _]) Z)<|pq 11 (qxX (.agg [vI _ _,vI _ _,vI _ _,vL _ _ _,vL _ _ _,vL _ _ _]) Z)<|pq 12 (qxX (vL _ _ _) Z)<|pq 13 (qxX (vL _ _ _) Z)<|vst 15 Z (zB 2012 ty.co27 ty.inf27 Z) (.inl Z)<|fT [2,3,4,6,7,8,12,62,63] [0,2002,2003,2004,2006,2007,2008,2009,2010,2012] ?_
     refine vq 16 (raL Z)<|vq 17 (raL Z)<|fD<|gA<|lq (rd (x:=.agg [vI _ _,vV _]) (rd_build Z ty.sa54 Z Z Z) Z)<|lmL Z<|lst (zC [] [] [] Tryz.func88 (spostAll0_e (allA newBook (evs3 (1+n3) (1+(1+n3+n7).tmod 3))).ps hps0.1 hps0.2) (trivial) Z Z) Z<|lmX (.tup [.agg [vI _ _,vL _ _ _],vI _ _]) Z<|lxX (.agg [vI _ _,vL _ _ _]) Z<|lxI Z<|lst (zA 2015 ty.ze54 Z) Z<|lst (zB 2015 ty.co54 ty.inf54 Z) Z<|laI Z<|nG<|aS<|aG 5 [2002,2003]<|tq 0 (roX (.agg [vI _ _,vI _ _,vI _ _,vL _ _ _,vL _ _ _,vL _ _ _]) ty.kd27 Z)<|tq 1 (roX (.agg [vI _ _,vL _ _ _]) ty.kd54 Z)<|tq 2 (roX (.agg [vI _ _,vI _ _,vI _ _,vI _ _,vI _ _,vI _ _,vB false]) ty.kd29 Z)<|yst 3 Z (zB 2002 ty.co27 ty.inf27 Z)<|gX [2,3,4,6,7,8,71,72] [0,2002,2003,2004,2006,2007,2008,2009,2010,2012,2015] ?_
     refine yst 4 Z (zB 2003 ty.co54 ty.inf54 Z)<|yl Z (zB 2004 ty.co29 ty.inf29 Z)<|gT<|aR<|rT ?_
     obtain⟨f1,f2⟩:=fall_lau hch hto hne ham hfe
     refine end_xret ((.tup [bookV (allA newBook (evs3 (1+n3) (1+(1+n3+n7).tmod 3))).now,ledV (sPostS ⟨0,[]⟩ (allA newBook (evs3 (1+n3) (1+(1+n3+n7).tmod 3))).ps).1,evV ⟨9,77,(1+n3),(1+(1+n3+n7).tmod 3),(1+n4),n5,false⟩])) [] ?_ rfl trivial
     exact⟨rfl,_,_,_,_,_,n5,hwv,allA_wf newBook_wf hwe,f1.mono (by omega),ham,hfe,f2,rfl⟩
   ·refine v1 14 Z (zA 2012 ty.ze27 Z) (.inr Z)<|vst 0 Z (zC [] [] [] Tryz.func16 (bookNew_e) (trivial) Z Z) (.inr Z) ?_
    have hwe:∀e∈(evs3 (1+n3) (1+(1+n3+n7).tmod 3)),wfEvent e:=by
     intro e he
     simp[evs3]at he
     rcases he with rfl|rfl|rfl<;>(unfold wfEvent i64;dsimp only;omega)
    have hel:(evs3 (1+n3) (1+(1+n3+n7).tmod 3)).length≤1048576:=by simp[evs3]
    have hps0:=ps_len (x:=newBook) (es:=(evs3 (1+n3) (1+(1+n3+n7).tmod 3))) bookOk_new (by simp[evs3])
    refine AF.freeze 2059 rfl ?_
    refine vst 9 Z (zC [] [] [] Tryz.func87 (sapplyAll_f newBook (evs3 (1+n3) (1+(1+n3+n7).tmod 3)) newBook_wf hwe hel) (trivial) Z Z) (.inr Z)<|vq 10 (rmX (.tup [.agg [vI _ _,vI _ _,vI _ _,vL _ _ _,vL _ _ _,vL _ _ _],vL _ _ _,vL _ _ _]) Z)<|pq 11 (qxX (.agg [vI _ _,vI _ _,vI _ _,vL _ _ _,vL _ _ _,vL _ _ _]) Z)<|pq 12 (qxX (vL _ _ _) Z)<|pq 13 (qxX (vL _ _ _) Z)<|vst 15 Z (zB 2012 ty.co27 ty.inf27 Z) (.inl Z)<|vq 16 (raL Z)<|vq 17 (raL Z)<|fD<|gA<|lq (rd (x:=.agg [vI _ _,vV _]) (rd_build Z ty.sa54 Z Z Z) Z)<|lmL Z<|lst (zC [] [] [] Tryz.func88 (spostAll0_e (allA newBook (evs3 (1+n3) (1+(1+n3+n7).tmod 3))).ps hps0.1 hps0.2) (trivial) Z Z) Z<|lT [2,3,4,6,7,8,12,67] [0,2002,2003,2004,2006,2007,2008,2009,2010,2012] ?_
    refine lmX (.tup [.agg [vI _ _,vL _ _ _],vI _ _]) Z<|lxX (.agg [vI _ _,vL _ _ _]) Z<|lxI Z<|lst (zA 2015 ty.ze54 Z) Z<|lst (zB 2015 ty.co54 ty.inf54 Z) Z<|laI Z<|nG<|aS<|aG 5 [2002,2003]<|tq 0 (roX (.agg [vI _ _,vI _ _,vI _ _,vL _ _ _,vL _ _ _,vL _ _ _]) ty.kd27 Z)<|tq 1 (roX (.agg [vI _ _,vL _ _ _]) ty.kd54 Z)<|tq 2 (roX (.agg [vI _ _,vI _ _,vI _ _,vI _ _,vI _ _,vI _ _,vB false]) ty.kd29 Z)<|yst 3 Z (zB 2002 ty.co27 ty.inf27 Z)<|yst 4 Z (zB 2003 ty.co54 ty.inf54 Z)<|yl Z (zB 2004 ty.co29 ty.inf29 Z)<|gT<|aR<|rT ?_
    obtain⟨f1,f2⟩:=fall_lau hch hto hne ham hfe
    refine end_xret ((.tup [bookV (allA newBook (evs3 (1+n3) (1+(1+n3+n7).tmod 3))).now,ledV (sPostS ⟨0,[]⟩ (allA newBook (evs3 (1+n3) (1+(1+n3+n7).tmod 3))).ps).1,evV ⟨9,77,(1+n3),(1+(1+n3+n7).tmod 3),(1+n4),n5,false⟩])) [] ?_ rfl trivial
    exact⟨rfl,_,_,_,_,_,n5,hwv,allA_wf newBook_wf hwe,f1.mono (by omega),ham,hfe,f2,rfl⟩
  ·refine v1 14 rfl (zA 2012 ty.ze27 rfl) (.inr rfl) ?_
   refine AF.two (i:=0) (j:=8) (by kernel_rfl) ?_ ?_
   ·refine v1 0 Z (zC [] [] [] Tryz.func16 (bookNew_e) (trivial) Z Z) (.inr Z)<|fT [2,3,4,6,7,8,12,51,52,55,58] [0,2002,2003,2004,2006,2007,2008,2009,2010,2012] ?_
    refine vst 8 rfl (zS 2059 (rowsOf encEvent (evs3 (1+n3) (1+(1+n3+n7).tmod 3))) ty.el44 ty.ze29 rfl (by intro r hr;simp[rowsOf,evs3]at hr;rcases hr with rfl|rfl|rfl<;>rfl)) (.inr rfl) ?_
    have hwe:∀e∈(evs3 (1+n3) (1+(1+n3+n7).tmod 3)),wfEvent e:=by
     intro e he
     simp[evs3]at he
     rcases he with rfl|rfl|rfl<;>(unfold wfEvent i64;dsimp only;omega)
    have hel:(evs3 (1+n3) (1+(1+n3+n7).tmod 3)).length≤1048576:=by simp[evs3]
    have hps0:=ps_len (x:=newBook) (es:=(evs3 (1+n3) (1+(1+n3+n7).tmod 3))) bookOk_new (by simp[evs3])
    refine AF.freeze 2059 rfl ?_
    refine vst 9 Z (zC [] [] [] Tryz.func87 (sapplyAll_f newBook (evs3 (1+n3) (1+(1+n3+n7).tmod 3)) newBook_wf hwe hel) (trivial) Z Z) (.inr Z)<|vq 10 (rmX (.tup [.agg [vI _ _,vI _ _,vI _ _,vL _ _ _,vL _ _ _,vL _ _ _],vL _ _ _,vL _ _ _]) Z)<|pq 11 (qxX (.agg [vI _ _,vI _ _,vI _ _,vL _ _ _,vL _ _ _,vL _ _ _]) Z)<|pq 12 (qxX (vL _ _ _) Z)<|pq 13 (qxX (vL _ _ _) Z)<|vst 15 Z (zB 2012 ty.co27 ty.inf27 Z) (.inl Z)<|vq 16 (raL Z)<|vq 17 (raL Z)<|fD<|gA<|lq (rd (x:=.agg [vI _ _,vV _]) (rd_build Z ty.sa54 Z Z Z) Z)<|lmL Z<|lst (zC [] [] [] Tryz.func88 (spostAll0_e (allA newBook (evs3 (1+n3) (1+(1+n3+n7).tmod 3))).ps hps0.1 hps0.2) (trivial) Z Z) Z<|lmX (.tup [.agg [vI _ _,vL _ _ _],vI _ _]) Z<|lxX (.agg [vI _ _,vL _ _ _]) Z<|lxI Z<|lst (zA 2015 ty.ze54 Z) Z<|lT [2,3,4,6,7,8,12,15,68,69] [0,2002,2003,2004,2006,2007,2008,2009,2010,2012,2015] ?_
    refine lst (zB 2015 ty.co54 ty.inf54 Z) Z<|laI Z<|nG<|aS<|aG 5 [2002,2003]<|tq 0 (roX (.agg [vI _ _,vI _ _,vI _ _,vL _ _ _,vL _ _ _,vL _ _ _]) ty.kd27 Z)<|tq 1 (roX (.agg [vI _ _,vL _ _ _]) ty.kd54 Z)<|tq 2 (roX (.agg [vI _ _,vI _ _,vI _ _,vI _ _,vI _ _,vI _ _,vB false]) ty.kd29 Z)<|yst 3 Z (zB 2002 ty.co27 ty.inf27 Z)<|yst 4 Z (zB 2003 ty.co54 ty.inf54 Z)<|yl Z (zB 2004 ty.co29 ty.inf29 Z)<|gT<|aR<|rT ?_
    obtain⟨f1,f2⟩:=fall_lau hch hto hne ham hfe
    refine end_xret ((.tup [bookV (allA newBook (evs3 (1+n3) (1+(1+n3+n7).tmod 3))).now,ledV (sPostS ⟨0,[]⟩ (allA newBook (evs3 (1+n3) (1+(1+n3+n7).tmod 3))).ps).1,evV ⟨9,77,(1+n3),(1+(1+n3+n7).tmod 3),(1+n4),n5,false⟩])) [] ?_ rfl trivial
    exact⟨rfl,_,_,_,_,_,n5,hwv,allA_wf newBook_wf hwe,f1.mono (by omega),ham,hfe,f2,rfl⟩
   ·refine v1 8 rfl (zS 2059 (rowsOf encEvent (evs3 (1+n3) (1+(1+n3+n7).tmod 3))) ty.el44 ty.ze29 rfl (by intro r hr;simp[rowsOf,evs3]at hr;rcases hr with rfl|rfl|rfl<;>rfl)) (.inr rfl)<|vst 0 rfl (zC [] [] [] Tryz.func16 (bookNew_e) (trivial) rfl rfl) (.inr rfl) ?_
    have hwe:∀e∈(evs3 (1+n3) (1+(1+n3+n7).tmod 3)),wfEvent e:=by
     intro e he
     simp[evs3]at he
     rcases he with rfl|rfl|rfl<;>(unfold wfEvent i64;dsimp only;omega)
    have hel:(evs3 (1+n3) (1+(1+n3+n7).tmod 3)).length≤1048576:=by simp[evs3]
    have hps0:=ps_len (x:=newBook) (es:=(evs3 (1+n3) (1+(1+n3+n7).tmod 3))) bookOk_new (by simp[evs3])
    refine AF.freeze 2059 rfl ?_
    refine vst 9 Z (zC [] [] [] Tryz.func87 (sapplyAll_f newBook (evs3 (1+n3) (1+(1+n3+n7).tmod 3)) newBook_wf hwe hel) (trivial) Z Z) (.inr Z)<|vq 10 (rmX (.tup [.agg [vI _ _,vI _ _,vI _ _,vL _ _ _,vL _ _ _,vL _ _ _],vL _ _ _,vL _ _ _]) Z)<|pq 11 (qxX (.agg [vI _ _,vI _ _,vI _ _,vL _ _ _,vL _ _ _,vL _ _ _]) Z)<|pq 12 (qxX (vL _ _ _) Z)<|pq 13 (qxX (vL _ _ _) Z)<|vst 15 Z (zB 2012 ty.co27 ty.inf27 Z) (.inl Z)<|fT [2,3,4,6,7,8,12,62,63] [0,2002,2003,2004,2006,2007,2008,2009,2010,2012] ?_
    refine vq 16 (raL Z)<|vq 17 (raL Z)<|fD<|gA<|lq (rd (x:=.agg [vI _ _,vV _]) (rd_build Z ty.sa54 Z Z Z) Z)<|lmL Z<|lst (zC [] [] [] Tryz.func88 (spostAll0_e (allA newBook (evs3 (1+n3) (1+(1+n3+n7).tmod 3))).ps hps0.1 hps0.2) (trivial) Z Z) Z<|lmX (.tup [.agg [vI _ _,vL _ _ _],vI _ _]) Z<|lxX (.agg [vI _ _,vL _ _ _]) Z<|lxI Z<|lst (zA 2015 ty.ze54 Z) Z<|lst (zB 2015 ty.co54 ty.inf54 Z) Z<|laI Z<|nG<|aS<|aG 5 [2002,2003]<|tq 0 (roX (.agg [vI _ _,vI _ _,vI _ _,vL _ _ _,vL _ _ _,vL _ _ _]) ty.kd27 Z)<|tq 1 (roX (.agg [vI _ _,vL _ _ _]) ty.kd54 Z)<|tq 2 (roX (.agg [vI _ _,vI _ _,vI _ _,vI _ _,vI _ _,vI _ _,vB false]) ty.kd29 Z)<|yst 3 Z (zB 2002 ty.co27 ty.inf27 Z)<|gX [2,3,4,6,7,8,71,72] [0,2002,2003,2004,2006,2007,2008,2009,2010,2012,2015] ?_
    refine yst 4 Z (zB 2003 ty.co54 ty.inf54 Z)<|yl Z (zB 2004 ty.co29 ty.inf29 Z)<|gT<|aR<|rT ?_
    obtain⟨f1,f2⟩:=fall_lau hch hto hne ham hfe
    refine end_xret ((.tup [bookV (allA newBook (evs3 (1+n3) (1+(1+n3+n7).tmod 3))).now,ledV (sPostS ⟨0,[]⟩ (allA newBook (evs3 (1+n3) (1+(1+n3+n7).tmod 3))).ps).1,evV ⟨9,77,(1+n3),(1+(1+n3+n7).tmod 3),(1+n4),n5,false⟩])) [] ?_ rfl trivial
    exact⟨rfl,_,_,_,_,_,n5,hwv,allA_wf newBook_wf hwe,f1.mono (by omega),ham,hfe,f2,rfl⟩
 ·intro h1
  refine aK<|gT<|aS<|aG 5 [2002,2003]<|tq 0 (roX (.agg [vI _ _,vI _ _,vI _ _,vL _ _ _,vL _ _ _,vL _ _ _]) ty.kd27 Z)<|tq 1 (roX (.agg [vI _ _,vL _ _ _]) ty.kd54 Z)<|tq 2 (roX (.agg [vI _ _,vI _ _,vI _ _,vI _ _,vI _ _,vI _ _,vB false]) ty.kd29 Z)<|yst 3 Z (zB 2002 ty.co27 ty.inf27 Z)<|yst 4 Z (zB 2003 ty.co54 ty.inf54 Z)<|yl Z (zB 2004 ty.co29 ty.inf29 Z)<|gT<|aR ?_
  have h0:applyC wb2 ⟨9,77,(1+n3),(1+(1+n3+n7).tmod 3),(1+n4),n5,false⟩=0:=by have h:=h1;simpa using h
  refine end_xret ((.tup [bookV wb2,ledV wl2,evV ⟨9,77,(1+n3),(1+(1+n3+n7).tmod 3),(1+n4),n5,false⟩])) [] ?_ rfl trivial
  exact⟨rfl,_,_,_,_,_,n5,hwv,hwb2,hwl2,ham,hfe,h0,rfl⟩

theorem apply_0{x:Book}{e:Event}(hw:BookWf x)(h:applyC x e=0):GC Tryz.prog 9 [bookV x,evV e] [] (.tup [bookV (appB x e),posV (appP x e),int 0]) []:=by
 have:=apply_f x e hw
 unfold appW at this
 rwa [h]at this
theorem post_0{l:Ledger}{p:Posting}(hp:p.lines.length≤1000)(h:postC l p=0):GC Tryz.prog 28 [ledV l,posV p] [] (.tup [ledV (postL l p),int 0]) []:=by
 have:=post_e l p hp
 rwa [h]at this
theorem same_y{a b:List Line}(h:a=b)(hn:b.length≤9007199254740992):GC Tryz.prog 30 [.p (.lst 120 3 (rowsOf encLine a)),.p (.lst 120 3 (rowsOf encLine b))] [] (boo true) []:=by
 subst h
 exact sameLines_e a hn
theorem agrees_y{x:Book}{l:Ledger}(hw:BookWf x)(h:Agr x l):GC Tryz.prog 20 [bookV x,ledV l] [] (boo true) []:=by
 have h1:=h.lns.len
 have:=agrees_e x l hw (by omega)
 rwa [h.yes]at this
theorem worth_rng{x:Book}{l:Ledger}(h:Agr x l):worth l=worthT l.lines∧-(320*1125899906842624:Int)≤worth l∧worth l≤320*1125899906842624:=by
 have e:=worth_ok h.ledger
 have h1:=led_rng h.ledger
 have h2:=worth_bd h1.2.1 l.lines.length (Nat.le_refl _)
 rw[List.take_length]at h2
 have h3:(l.lines.length:Int)≤320:=by omega
 rw[e]
 exact⟨rfl,by omega,by omega⟩
theorem fnLost_e(code:List Int):GC Tryz.prog 7 [.p (.lst 5 1 (rowsOf encU8 code))] [] (boo true) []:=by
 refine gi 2 Tryz.func7 rfl Tryz.ntmps7 rfl ?_
 intro L O w0
 refine sL<|laZ Z<|nG<|aS<|sL<|lmL Z<|lnI ty.sl22 Z<|lbB Z<|nG ?_
 refine AW.cond rfl ?_ ?_
 ·intro h1
  refine sL<|laT Z<|nG<|aR<|rT ?_
  refine eBo trivial ?_
  first|rfl|(trace_state;sorry)
 ·intro h1
  refine aK<|gA<|lmL Z ?_
  have hm:code.length≤1048576:=by have h:=h1;simp[length_rowsOf]at h;omega
  refine lX [] [] [] Tryz.func31 (makeLaunch_e code hm) (trivial) (fun _ _ e=>by rw[e.1];trivial) Z ?_
  intro xz1 oz1 hz1
  obtain⟨rfl,wb,wl,wc,wt,wa,wf,hwv,hwb,hwl,ham,hfe,h0,rfl⟩:=hz1
  refine lmX (.tup [.agg [vI _ _,vI _ _,vI _ _,vL _ _ _,vL _ _ _,vL _ _ _],.agg [vI _ _,vL _ _ _],.agg [vI _ _,vI _ _,vI _ _,vI _ _,vI _ _,vI _ _,vB _]]) Z<|lxX (.agg [vI _ _,vI _ _,vI _ _,vL _ _ _,vL _ _ _,vL _ _ _]) Z<|lxX (.agg [vI _ _,vL _ _ _]) Z<|lxX (.agg [vI _ _,vI _ _,vI _ _,vI _ _,vI _ _,vI _ _,vB _]) Z<|lst (zA 2003 ty.ze27 Z) Z<|lst (zA 2004 ty.ze54 Z) Z<|lst (zA 2005 ty.ze29 Z) Z<|lT [2,3,4,5,27,28,29] [2003,2004,2005] ?_
  refine lst (zB 2003 ty.co27 ty.inf27 Z) Z<|lst (zB 2004 ty.co54 ty.inf54 Z) Z<|lst (zB 2005 ty.co29 ty.inf29 Z) Z<|nA ?_
  have hf:=lost hwl (by omega) ham hfe h0
  have hwx:=appB_wf hwb hwv
  refine loX (.agg [vI _ _,vI _ _,vI _ _,vL _ _ _,vL _ _ _,vL _ _ _]) ty.kd27 Z<|loX (.agg [vI _ _,vI _ _,vI _ _,vI _ _,vI _ _,vI _ _,vB _]) ty.kd29 Z<|lst (zC [] [] [] Tryz.func9 (apply_0 hwb h0) (trivial) Z Z) Z<|lmX (.tup [.agg [vI _ _,vI _ _,vI _ _,vL _ _ _,vL _ _ _,vL _ _ _],.agg [vI _ _,vL _ _ _],vI _ _]) Z<|lxX (.agg [vI _ _,vI _ _,vI _ _,vL _ _ _,vL _ _ _,vL _ _ _]) Z<|lxX (.agg [vI _ _,vL _ _ _]) Z<|lxI Z<|lst (zA 2006 ty.ze27 Z) Z<|lst (zA 2007 ty.ze34 Z) Z<|lst (zB 2006 ty.co27 ty.inf27 Z) Z<|lst (zB 2007 ty.co34 ty.inf34 Z) Z<|lT [2,3,4,5,6,7,36] [2003,2004,2005,2006,2007] ?_
  refine laI Z<|nG<|aS<|sL<|lmI Z<|lbB Z<|lsB 38 false rfl (rfl)<|lmZ Z<|lf 0 ty.F34_0 Z<|loI ty.kd3 Z<|lbB Z<|lsB 42 false rfl (by have:=hf.id;simpa using this)<|lkZ Z<|nG<|aN Z<|aK<|gA<|loX (.agg [vI _ _,vL _ _ _]) ty.kd54 Z<|loX (.agg [vI _ _,vL _ _ _]) ty.kd34 Z<|lst (zC [] [] [] Tryz.func28 (post_0 (appP_len _ _) hf.x.code) (trivial) rfl rfl) Z<|lmX (.tup [.agg [vI _ _,vL _ _ _],vI _ _]) Z<|lxX (.agg [vI _ _,vL _ _ _]) Z<|lxI Z<|lst (zA 2009 ty.ze54 rfl) Z<|lT [2,3,4,5,6,9,48,49] [2003,2004,2005,2006,2007,2009] ?_
  refine lst (zB 2009 ty.co54 ty.inf54 Z) Z<|laI Z<|nA<|loX (.agg [vI _ _,vI _ _,vI _ _,vL _ _ _,vL _ _ _,vL _ _ _]) ty.kd27 Z<|lf 1 ty.F29_1 Z<|loI ty.kd3 Z<|lq (rd (x:=.agg [vI _ _,vI _ _,vI _ _,vI _ _,vI _ _,vI _ _,vB false]) (rd_build Z ty.sa29 Z Z Z) Z)<|lst (zC [] [] [] Tryz.func9 (apply_0 hwx hf.lost) (trivial) Z Z) Z<|lmX (.tup [.agg [vI _ _,vI _ _,vI _ _,vL _ _ _,vL _ _ _,vL _ _ _],.agg [vI _ _,vL _ _ _],vI _ _]) Z<|lxX (.agg [vI _ _,vI _ _,vI _ _,vL _ _ _,vL _ _ _,vL _ _ _]) Z<|lxX (.agg [vI _ _,vL _ _ _]) Z<|lxI Z<|lst (zA 2011 ty.ze27 Z) Z<|lst (zA 2012 ty.ze34 Z) Z<|lst (zB 2011 ty.co27 ty.inf27 Z) Z<|lT [2,3,4,5,6,9,10,11,12,57,58] [2003,2004,2005,2006,2007,2009,2011,2012] ?_
  refine lst (zB 2012 ty.co34 ty.inf34 Z) Z<|laI Z<|nA<|loX (.agg [vI _ _,vI _ _,vI _ _,vL _ _ _,vL _ _ _,vL _ _ _]) ty.kd27 Z<|lf 1 ty.F29_1 Z<|loI ty.kd3 Z<|lq (rd (x:=.agg [vI _ _,vI _ _,vI _ _,vI _ _,vI _ _,vI _ _,vB false]) (rd_build Z ty.sa29 Z Z Z) Z)<|lst (zC [] [] [] Tryz.func9 (apply_0 hwx hf.arr) (trivial) Z Z) Z<|lmX (.tup [.agg [vI _ _,vI _ _,vI _ _,vL _ _ _,vL _ _ _,vL _ _ _],.agg [vI _ _,vL _ _ _],vI _ _]) Z<|lxX (.agg [vI _ _,vI _ _,vI _ _,vL _ _ _,vL _ _ _,vL _ _ _]) Z<|lxX (.agg [vI _ _,vL _ _ _]) Z<|lxI Z<|lst (zA 2014 ty.ze27 Z) Z<|lst (zA 2015 ty.ze34 Z) Z<|lst (zB 2014 ty.co27 ty.inf27 Z) Z<|lT [2,3,4,5,9,10,11,12,13,14,15,66,67] [2003,2004,2005,2006,2007,2009,2011,2012,2014,2015] ?_
  refine lst (zB 2015 ty.co34 ty.inf34 Z) Z<|laI Z<|nA<|loX (.agg [vI _ _,vL _ _ _]) ty.kd54 Z<|loX (.agg [vI _ _,vL _ _ _]) ty.kd34 Z<|lst (zC [] [] [] Tryz.func28 (post_0 (appP_len _ _) hf.y.code) (trivial) Z Z) Z<|lmX (.tup [.agg [vI _ _,vL _ _ _],vI _ _]) Z<|lxX (.agg [vI _ _,vL _ _ _]) Z<|lxI Z<|lst (zA 2017 ty.ze54 Z) Z<|lst (zB 2017 ty.co54 ty.inf54 Z) Z<|laI Z<|nA<|loX (.agg [vI _ _,vL _ _ _]) ty.kd54 Z<|loX (.agg [vI _ _,vL _ _ _]) ty.kd34 Z<|lst (zC [] [] [] Tryz.func28 (post_0 (appP_len _ _) hf.z.code) (trivial) Z Z) Z<|lT [2,3,4,5,9,10,11,13,14,16,17,18,77] [2003,2004,2005,2006,2007,2009,2011,2012,2014,2015,2017] ?_
  refine lmX (.tup [.agg [vI _ _,vL _ _ _],vI _ _]) Z<|lxX (.agg [vI _ _,vL _ _ _]) Z<|lxI Z<|lst (zA 2019 ty.ze54 Z) Z<|lst (zB 2019 ty.co54 ty.inf54 Z) Z<|laI Z<|nG<|aS<|sL<|lmI Z<|lbB Z<|lsB 81 false Z (Z)<|lmZ Z<|lmI Z<|lbB Z<|lsB 84 false Z (Z)<|lkZ Z<|lmZ Z<|lmI Z<|lbB Z<|lsB 88 false Z (Z)<|lkZ Z<|lmZ Z<|lmI Z<|lbB Z<|lsB 92 false Z (Z)<|lkZ Z<|lmZ Z ?_
  refine lmI Z<|lbB Z<|lsB 96 false Z (Z)<|lkZ Z<|nG<|aN Z<|aK<|gT<|aS<|aF [] ?_
  obtain⟨w1,w2,w3⟩:=worth_rng hwl.agr
  obtain⟨u1,u2,u3⟩:=worth_rng hf.x.agr
  obtain⟨v1,v2,v3⟩:=worth_rng hf.z.agr
  have hsm:=hf.same
  have hco:=hf.cost
  refine sq 0 (roX (.agg [vI _ _,vL _ _ _]) ty.kd54 Z)<|sq 2 (roX (.agg [vI _ _,vL _ _ _]) ty.kd54 Z) ?_
  refine vst 1 rfl (zC [] [] [] Tryz.func29 (worth_e (postL wl (appP wb ⟨9,77,wc,wt,wa,wf,false⟩))) (trivial) rfl rfl) (.inr rfl)<|fT [2,3,4,5,11,14,17,19,99,100] [2003,2004,2005,2006,2007,2009,2011,2012,2014,2015,2017,2019] ?_
  refine vst 3 rfl (zC [] [] [] Tryz.func29 (worth_e wl) (trivial) rfl rfl) (.inr rfl)<|vq 4 (rbB rfl)<|fsB 102 true rfl (by rw[u1,w1,hsm];simp)<|vq 5 (rmT rfl)<|pq 6 (qf 1 ty.F54_1 rfl)<|sq 7 (roL ty.kd32 rfl)<|vq 8 (rf 1 ty.F54_1 rfl)<|vq 9 (roL ty.kd32 rfl)<|vst 10 rfl (zC [] [] [] Tryz.func30 (same_y hf.back (by have:=hwl.agr.lns.len;omega)) (trivial) rfl rfl) (.inr rfl)<|vq 11 (rkT rfl)<|vq 12 (rmT rfl)<|sq 13 (roX (.agg [vI _ _,vL _ _ _]) ty.kd54 rfl)<|sq 15 (roX (.agg [vI _ _,vL _ _ _]) ty.kd54 rfl)<|pq 17 (qf 5 ty.F29_5 rfl)<|sq 18 (roI ty.kd3 rfl) ?_
  refine vst 14 rfl (zC [] [] [] Tryz.func29 (worth_e (postL (postL wl (appP wb ⟨9,77,wc,wt,wa,wf,false⟩)) (appP (appB wb ⟨9,77,wc,wt,wa,wf,false⟩) ⟨10,77,0,0,0,0,false⟩))) (trivial) rfl rfl) (.inr rfl)<|fT [2,3,11,14,19,110,112,113,116] [2003,2004,2005,2006,2007,2009,2011,2012,2014,2015,2017,2019] ?_
  refine vst 16 rfl (zC [] [] [] Tryz.func29 (worth_e wl) (trivial) rfl rfl) (.inr rfl) ?_
  refine vq 19 (rhI rfl ⟨rfl,fits_i64 (by unfold i64;dsimp only at *;omega)⟩)<|vq 20 (rbB rfl)<|fsB 118 true rfl (by rw[v1,w1,hco];simp)<|vq 21 (rkT rfl)<|vq 22 (rmT rfl)<|pq 23 (qf 5 ty.F27_5 rfl)<|sq 24 (roL ty.kd25 rfl)<|sq 25 (rnI ty.sl25 rfl)<|vq 26 (rf 5 ty.F27_5 rfl)<|vq 27 (roL ty.kd25 rfl)<|vq 28 (rnI ty.sl25 rfl)<|vq 29 (rbB rfl)<|fsB 127 true rfl (by have:=hf.len1;simp[length_rowsOf,this])<|vq 30 (rkT rfl)<|vq 31 (rmT rfl)<|pq 32 (qf 5 ty.F27_5 rfl)<|sq 33 (roL ty.kd25 rfl)<|sq 34 (rnI ty.sl25 rfl)<|vq 35 (rf 5 ty.F27_5 rfl)<|vq 36 (roL ty.kd25 rfl)<|vq 37 (rnI ty.sl25 rfl)<|vq 38 (rbB rfl)<|fsB 136 true rfl (by have:=hf.len2;simp[length_rowsOf,this])<|vq 39 (rkT rfl)<|vq 40 (rmT rfl)<|sq 41 (roX (.agg [vI _ _,vI _ _,vI _ _,vL _ _ _,vL _ _ _,vL _ _ _]) ty.kd27 rfl)<|vq 42 (roX (.agg [vI _ _,vL _ _ _]) ty.kd54 rfl)<|vst 43 rfl (zC [] [] [] Tryz.func20 (agrees_y (appB_wf hwx (by unfold wfEvent i64;decide)) hf.z.agr) (trivial) rfl rfl) (.inr rfl)<|fT [2,138,141] [2003,2004,2005,2006,2007,2009,2011,2012,2014,2015,2017,2019] ?_
  refine vq 44 (rkT Z)<|vq 45 (raT Z)<|fD<|gT<|aR ?_
  refine eBo trivial ?_
  first|rfl|(trace_state;sorry)

theorem FnLost_walk(l:List Int)(a:Option Addr)(c:Nat)(w:World)(h0:SlR 1 repByte w 0 w.heap.size (.slice a l.length c) l) :
 Calls Tryz.prog 7 #[.slice a l.length c] w fun r w'=>r=.returned (.bool true)∧Grow w w':=
 GC.calls (cs:=[_]) rfl (fnLost_e l) (by
  simp only[RVL]
  exact⟨_,_,rfl,RV.of_slr (enc:=encU8) h0 (fun _ _ h=>h.1) (fun _=>rfl) (by intro c u hu;simp[encU8]at hu;subst hu;rfl) (Nat.le_refl _) (fun _ _ _=>no_live),rfl⟩)
end Go.Proofs.YtogkbcmfoalpiaaGreat

namespace Go.Proofs.YtogkbcmfoalpiaaGreat.fnLost
open Go.ChangeShapes Go.WideShapes Go.ChangeAt Go.RowKit Go.Proofs.YtogkbcmfoalpiaaGreat
set_option maxHeartbeats 16000000
set_option maxRecDepth 100000
set_option linter.unusedVariables false
theorem own:ownKnob Tryz.prog.godebug=none:=by kernel_rfl
theorem laid:laidOutB Tryz.prog=true:=by kernel_rfl
theorem readable:∀t∈[22],Tryz.prog.readableRec t=true∧t<Tryz.prog.types.size:=by
 intro t ht
 simp only[List.mem_cons,List.not_mem_nil,or_false]at ht
 rcases ht with rfl
 all_goals exact⟨by kernel_rfl,of_decide_eq_true (by kernel_rfl)⟩
theorem lifted(os:Os)(started:os.Started)(H:Type)(enc:TypeId×Value→H) :
 ReturnsInHanded {} Tryz.checked os 7 .any (Rows.fnLostSpec.pre6 enc Tryz.prog Tryz.f7 Rows.fnLostRow.domain false) (Rows.fnLostSpec.post enc Tryz.prog Tryz.f7 false true false false):=by
 refine returnsInHanded_of_change (C:=Tryz.checked) own started (by kernel_rfl) Tryz.func7
  (ChangeSpec.witness6 (enc:=enc) (C:=Tryz.checked) false ⟨#[],#[.slice none 0 0],[]⟩ 8 (by kernel_rfl) (by kernel_rfl) (by kernel_rfl) (by kernel_rfl)) ?_
 intro W base args ds gs before hval0 hW hcnd _
 have hval:∀(j:Nat) t v,Tryz.f7.params[j]? = some t→args[j]? = some v→Value.okWide Tryz.prog W .any base t v:=hval0
 have hW':=hW
 obtain⟨p,q,hA0,hV,rfl,hfz,hnd⟩:=hW
 have hA:DataW.TrodAll enc Tryz.prog W 0 (fun _=>true) true Tryz.f7.params.toList args.toList ds p:=hA0
 rw[Tryz.params7]at hA hval
 have hB:=hA
 obtain⟨v0,vs0,d0,ds0,p0,q0,hargs,rfl,rfl,h0,r0⟩:=trodAll_cons hA
 obtain⟨rfl,rfl,rfl⟩:=trodAll_nil r0
 obtain rfl:args=#[v0]:=by cases args;simp_all
 obtain⟨rfl,rfl⟩:=trodVars_none hV
 obtain⟨a0,l0,c0,rfl⟩:=okWide_slice Tryz.underlying22 (hval 0 22 v0 rfl rfl)
 obtain⟨fu0,t0⟩:=h0
 obtain⟨x0,s0⟩:=SlR.of_trod (rep:=repByte) Tryz.underlying22 cellsByte (by decide) (fun _ _ _ h=>trodByte h) t0
 obtain rfl:l0=x0.length:=by obtain⟨_,_,he,_⟩:=s0;injection he
 clear hA0 hval0
 simp only[List.append_nil]at hW'
 refine(FnLost_walk x0 a0 c0 W s0).mono fun e W' ⟨he,hg⟩=>?_
 subst he
 exact⟨_,rfl,_,_,_,_,_,[],hW',trodAll_mk1 (shut_bool Tryz.underlying4 true),
  trodAll_below laid hg.below (readable) hB,rfl,hg.below.frame _,fun h=>by cases h⟩
theorem over:Rows.fnLostRow.holds Tryz.pinned (OpenSpec.ofChange Rows.fnLostSpec):=
 OpenClaim.holds_of_wide 7 Tryz.f7 rfl rfl rfl rfl rfl rfl rfl ⟨rfl,rfl,rfl,rfl,rfl⟩ rfl rfl rfl rfl rfl (by kernel_rfl) Tryz.func7 (by kernel_rfl)
  (of_decide_eq_true (by kernel_rfl)) (by unfold Func.isWrapper;first|(rw[if_pos (by decide +kernel)];kernel_rfl)|(rw[if_neg (by decide +kernel)];exact⟨rfl,rfl⟩))
  (fun os started H enc _=>lifted os started H enc)
theorem proved:Rows.FnLostSaid:=
 over
#print axioms proved
end Go.Proofs.YtogkbcmfoalpiaaGreat.fnLost

