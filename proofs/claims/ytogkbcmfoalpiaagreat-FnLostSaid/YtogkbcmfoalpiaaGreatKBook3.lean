/- A book: the sums of what is under way, walked. -/
import Derived.Test.YtogkbcmfoalpiaaGreatKBook2
namespace Go.Proofs.YtogkbcmfoalpiaaGreat
open Go.RowKit
set_option maxHeartbeats 16000000
set_option maxRecDepth 100000
set_option linter.unusedSimpArgs false
set_option linter.unusedVariables false
theorem spec_Out_c(x:Book)(a0:Option Addr)(c0:Nat)(a1:Option Addr)(c1:Nat)(a2:Option Addr)(c2:Nat)(ch:Int)(w:World)(h1:SlR 7 repHtlc w 0 w.heap.size (.slice a1 x.htlcs.length c1) x.htlcs)(h2:SlR 5 repCircle w 0 w.heap.size (.slice a2 x.circles.length c2) x.circles)(sm:Small x) :
 Calls Tryz.prog 79 #[.agg #[.int .i64 x.tick,.int .i64 x.next,.int .i64 x.wallet,.slice a0 x.chans.length c0,.slice a1 x.htlcs.length c1,.slice a2 x.circles.length c2],.int .i64 ch] w fun e w'=>e=.returned (.int .i64 (outOf x ch))∧Grow w w':=by
 have H1:=Lib.hid h1;have H2:=Lib.hid h2;have SM:=Lib.hid sm
 have nh:=sm.nh
 have nc:=sm.nc
 clear h1 h2 sm
 go_enter Tryz.func79,Tryz.ntmps79
 go_wp2
 have hg0:Grow w (w.alloc (.cells #[.int .i64 x.tick,.int .i64 x.next,.int .i64 x.wallet,.slice a0 x.chans.length c0,.slice a1 x.htlcs.length c1,.slice a2 x.circles.length c2] 27)):=(Grow.refl _).alloc _ _
 have hb:BookAt (w.alloc (.cells #[.int .i64 x.tick,.int .i64 x.next,.int .i64 x.wallet,.slice a0 x.chans.length c0,.slice a1 x.htlcs.length c1,.slice a2 x.circles.length c2] 27)) w.heap.size x a0 c0 a1 c1 a2 c2:=BookAt.new x a0 c0 a1 c1 a2 c2 w
 obtain⟨W,hW⟩:∃W,W=w.alloc (.cells #[.int .i64 x.tick,.int .i64 x.next,.int .i64 x.wallet,.slice a0 x.chans.length c0,.slice a1 x.htlcs.length c1,.slice a2 x.circles.length c2] 27):=⟨_,rfl⟩
 rw[←hW]at hg0 hb ⊢
 have HB:=Lib.hid hb;have HG0:=Lib.hid hg0
 clear hW hb hg0
 go_loopg [5,13] x.htlcs.length (fun g n i wr=>∃k:Nat,k+g=x.htlcs.length∧i=.int .i64 k∧n=.int .i64 (tot (hOut ch) (x.htlcs.take k))∧Grow W wr)
 case atStart=>exact⟨0,by simp,rfl,rfl,Grow.refl _⟩
 case round=>
  obtain⟨k,hk,rfl,rfl,hg⟩:=hrel
  by_cases hlt:k<x.htlcs.length
  ·obtain⟨b,off,rfl,hb1,hb2,hel⟩:=H1.out.elems k hlt
   obtain⟨e0,e1,e2,e3,e4,e5,e6,_⟩:=Htlc.atCell (hel.same repHtlc_stable ((HG0.out.trans hg).same (Nat.le_refl _)) hb1 hb2) k hlt
   have HT:Hid (tot (hOut ch) (x.htlcs.take (k+1))=tot (hOut ch) (x.htlcs.take k)+hOut ch x.htlcs[k]):=tot_succ _ _ hlt
   obtain⟨s1,s2⟩:=tot_lim 60 (by omega) (SM.out.hOut ch) nh k
   obtain⟨v1,v2⟩:=SM.out.hOut ch x.htlcs[k] (List.getElem_mem hlt)
   have HG:=Lib.hid hg;have HK:=Lib.hid hk
   clear hg hk hel
   generalize x.htlcs[k]=e at *
   generalize tot (hOut ch) (x.htlcs.take k)=s at *
   by_cases t:e.out=ch
   ·have hv:hOut ch e=e.amtOut:=if_pos t
    rw[hv]at v1 v2
    have HV:=Lib.hid hv;clear hv
    go_wp2
    go_roundg (x.htlcs.length-(k+1))
    case measure=>have:=HK.out;omega
    case rel=>exact⟨k+1,by have:=HK.out;omega,by go_num,by rw[HT.out,HV.out];try go_num,HG.out.alloc _ _⟩
   ·have hv:hOut ch e=0:=if_neg t
    have HV:=Lib.hid hv;clear hv v1 v2
    go_wp2
    go_roundg (x.htlcs.length-(k+1))
    case measure=>have:=HK.out;omega
    case rel=>exact⟨k+1,by have:=HK.out;omega,by go_num,by rw[HT.out,HV.out];simp,HG.out.alloc _ _⟩
  ·have hke:k=x.htlcs.length:=by omega
   have hs:tot (hOut ch) (x.htlcs.take k)=tot (hOut ch) x.htlcs:=by rw[hke,List.take_length]
   obtain⟨s1,s2⟩:=tot_lim 60 (by omega) (SM.out.hOut ch) nh k
   rw[hs]at s1 s2 ⊢
   have HP:Hid (outOf x ch=tot (hOut ch) x.htlcs+tot (cOut ch) x.circles):=rfl
   generalize tot (hOut ch) x.htlcs=s at *
   obtain⟨k0,k1,k2,k3,k4,k5⟩:=HB.out.grow hg
   have HGW:=Lib.hid (HG0.out.trans hg)
   clear hke hs hg hk
   go_wp2
   clear k0 k1 k2 k3 k4 k5
   go_loopg [5,29] x.circles.length (fun g n i wr'=>∃k:Nat,k+g=x.circles.length∧i=.int .i64 k∧n=.int .i64 (s+tot (cOut ch) (x.circles.take k))∧Grow w wr')
   case atStart=>exact⟨0,by simp,rfl,by simp[tot],HGW.out⟩
   case round=>
    obtain⟨k,hk,rfl,rfl,hg⟩:=hrel
    by_cases hlt:k<x.circles.length
    ·obtain⟨b,off,rfl,hb1,hb2,hel⟩:=H2.out.elems k hlt
     obtain⟨e0,e1,e2,e3,e4,_⟩:=Circle.atCell (hel.same repCircle_stable (hg.same (Nat.le_refl _)) hb1 hb2) k hlt
     have HT:Hid (tot (cOut ch) (x.circles.take (k+1))=tot (cOut ch) (x.circles.take k)+cOut ch x.circles[k]):=tot_succ _ _ hlt
     obtain⟨s3,s4⟩:=tot_lim 20 (by omega) (SM.out.cOut ch) nc k
     obtain⟨v1,v2,v3,v4⟩:=SM.out.c x.circles[k] (List.getElem_mem hlt)
     have HG:=Lib.hid hg;have HK:=Lib.hid hk
     clear hg hk hel
     generalize x.circles[k]=e at *
     generalize tot (cOut ch) (x.circles.take k)=r at *
     by_cases t:e.frm=ch
     ·have hv:cOut ch e=e.amt+e.fee:=if_pos t
      have HV:=Lib.hid hv;clear hv
      go_wp2
      go_roundg (x.circles.length-(k+1))
      case measure=>have:=HK.out;omega
      case rel=>exact⟨k+1,by have:=HK.out;omega,by go_num,by rw[HT.out,HV.out];try go_num,HG.out.alloc _ _⟩
     ·have hv:cOut ch e=0:=if_neg t
      have HV:=Lib.hid hv;clear hv
      go_wp2
      go_roundg (x.circles.length-(k+1))
      case measure=>have:=HK.out;omega
      case rel=>exact⟨k+1,by have:=HK.out;omega,by go_num,by rw[HT.out,HV.out];simp,HG.out.alloc _ _⟩
    ·have hke:k=x.circles.length:=by omega
     have hs:tot (cOut ch) (x.circles.take k)=tot (cOut ch) x.circles:=by rw[hke,List.take_length]
     rw[hs]
     have HG:=Lib.hid hg;clear hke hs hg hk
     generalize tot (cOut ch) x.circles=r at *
     go_wp2
     go_ret
     exact⟨by rw[HP.out];first|rfl|(congr 1;done)|go_num,HG.out⟩
theorem spec_In_c(x:Book)(a0:Option Addr)(c0:Nat)(a1:Option Addr)(c1:Nat)(a2:Option Addr)(c2:Nat)(ch:Int)(w:World)(h1:SlR 7 repHtlc w 0 w.heap.size (.slice a1 x.htlcs.length c1) x.htlcs)(h2:SlR 5 repCircle w 0 w.heap.size (.slice a2 x.circles.length c2) x.circles)(sm:Small x) :
 Calls Tryz.prog 80 #[.agg #[.int .i64 x.tick,.int .i64 x.next,.int .i64 x.wallet,.slice a0 x.chans.length c0,.slice a1 x.htlcs.length c1,.slice a2 x.circles.length c2],.int .i64 ch] w fun e w'=>e=.returned (.int .i64 (intoOf x ch))∧Grow w w':=by
 have H1:=Lib.hid h1;have H2:=Lib.hid h2;have SM:=Lib.hid sm
 have nh:=sm.nh
 have nc:=sm.nc
 clear h1 h2 sm
 go_enter Tryz.func80,Tryz.ntmps80
 go_wp2
 have hg0:Grow w (w.alloc (.cells #[.int .i64 x.tick,.int .i64 x.next,.int .i64 x.wallet,.slice a0 x.chans.length c0,.slice a1 x.htlcs.length c1,.slice a2 x.circles.length c2] 27)):=(Grow.refl _).alloc _ _
 have hb:BookAt (w.alloc (.cells #[.int .i64 x.tick,.int .i64 x.next,.int .i64 x.wallet,.slice a0 x.chans.length c0,.slice a1 x.htlcs.length c1,.slice a2 x.circles.length c2] 27)) w.heap.size x a0 c0 a1 c1 a2 c2:=BookAt.new x a0 c0 a1 c1 a2 c2 w
 obtain⟨W,hW⟩:∃W,W=w.alloc (.cells #[.int .i64 x.tick,.int .i64 x.next,.int .i64 x.wallet,.slice a0 x.chans.length c0,.slice a1 x.htlcs.length c1,.slice a2 x.circles.length c2] 27):=⟨_,rfl⟩
 rw[←hW]at hg0 hb ⊢
 have HB:=Lib.hid hb;have HG0:=Lib.hid hg0
 clear hW hb hg0
 go_loopg [5,13] x.htlcs.length (fun g n i wr=>∃k:Nat,k+g=x.htlcs.length∧i=.int .i64 k∧n=.int .i64 (tot (hIn ch) (x.htlcs.take k))∧Grow W wr)
 case atStart=>exact⟨0,by simp,rfl,rfl,Grow.refl _⟩
 case round=>
  obtain⟨k,hk,rfl,rfl,hg⟩:=hrel
  by_cases hlt:k<x.htlcs.length
  ·obtain⟨b,off,rfl,hb1,hb2,hel⟩:=H1.out.elems k hlt
   obtain⟨e0,e1,e2,e3,e4,e5,e6,_⟩:=Htlc.atCell (hel.same repHtlc_stable ((HG0.out.trans hg).same (Nat.le_refl _)) hb1 hb2) k hlt
   have HT:Hid (tot (hIn ch) (x.htlcs.take (k+1))=tot (hIn ch) (x.htlcs.take k)+hIn ch x.htlcs[k]):=tot_succ _ _ hlt
   obtain⟨s1,s2⟩:=tot_lim 60 (by omega) (SM.out.hIn ch) nh k
   obtain⟨v1,v2⟩:=SM.out.hIn ch x.htlcs[k] (List.getElem_mem hlt)
   have HG:=Lib.hid hg;have HK:=Lib.hid hk
   clear hg hk hel
   generalize x.htlcs[k]=e at *
   generalize tot (hIn ch) (x.htlcs.take k)=s at *
   by_cases t:e.inn=ch
   ·have hv:hIn ch e=e.amtIn:=if_pos t
    rw[hv]at v1 v2
    have HV:=Lib.hid hv;clear hv
    go_wp2
    go_roundg (x.htlcs.length-(k+1))
    case measure=>have:=HK.out;omega
    case rel=>exact⟨k+1,by have:=HK.out;omega,by go_num,by rw[HT.out,HV.out];try go_num,HG.out.alloc _ _⟩
   ·have hv:hIn ch e=0:=if_neg t
    have HV:=Lib.hid hv;clear hv v1 v2
    go_wp2
    go_roundg (x.htlcs.length-(k+1))
    case measure=>have:=HK.out;omega
    case rel=>exact⟨k+1,by have:=HK.out;omega,by go_num,by rw[HT.out,HV.out];simp,HG.out.alloc _ _⟩
  ·have hke:k=x.htlcs.length:=by omega
   have hs:tot (hIn ch) (x.htlcs.take k)=tot (hIn ch) x.htlcs:=by rw[hke,List.take_length]
   obtain⟨s1,s2⟩:=tot_lim 60 (by omega) (SM.out.hIn ch) nh k
   rw[hs]at s1 s2 ⊢
   have HP:Hid (intoOf x ch=tot (hIn ch) x.htlcs+tot (cIn ch) x.circles):=rfl
   generalize tot (hIn ch) x.htlcs=s at *
   obtain⟨k0,k1,k2,k3,k4,k5⟩:=HB.out.grow hg
   have HGW:=Lib.hid (HG0.out.trans hg)
   clear hke hs hg hk
   go_wp2
   clear k0 k1 k2 k3 k4 k5
   go_loopg [5,29] x.circles.length (fun g n i wr'=>∃k:Nat,k+g=x.circles.length∧i=.int .i64 k∧n=.int .i64 (s+tot (cIn ch) (x.circles.take k))∧Grow w wr')
   case atStart=>exact⟨0,by simp,rfl,by simp[tot],HGW.out⟩
   case round=>
    obtain⟨k,hk,rfl,rfl,hg⟩:=hrel
    by_cases hlt:k<x.circles.length
    ·obtain⟨b,off,rfl,hb1,hb2,hel⟩:=H2.out.elems k hlt
     obtain⟨e0,e1,e2,e3,e4,_⟩:=Circle.atCell (hel.same repCircle_stable (hg.same (Nat.le_refl _)) hb1 hb2) k hlt
     have HT:Hid (tot (cIn ch) (x.circles.take (k+1))=tot (cIn ch) (x.circles.take k)+cIn ch x.circles[k]):=tot_succ _ _ hlt
     obtain⟨s3,s4⟩:=tot_lim 20 (by omega) (SM.out.cIn ch) nc k
     obtain⟨v1,v2,v3,v4⟩:=SM.out.c x.circles[k] (List.getElem_mem hlt)
     have HG:=Lib.hid hg;have HK:=Lib.hid hk
     clear hg hk hel
     generalize x.circles[k]=e at *
     generalize tot (cIn ch) (x.circles.take k)=r at *
     by_cases t:e.to=ch
     ·have hv:cIn ch e=e.amt:=if_pos t
      have HV:=Lib.hid hv;clear hv
      go_wp2
      go_roundg (x.circles.length-(k+1))
      case measure=>have:=HK.out;omega
      case rel=>exact⟨k+1,by have:=HK.out;omega,by go_num,by rw[HT.out,HV.out];try go_num,HG.out.alloc _ _⟩
     ·have hv:cIn ch e=0:=if_neg t
      have HV:=Lib.hid hv;clear hv
      go_wp2
      go_roundg (x.circles.length-(k+1))
      case measure=>have:=HK.out;omega
      case rel=>exact⟨k+1,by have:=HK.out;omega,by go_num,by rw[HT.out,HV.out];simp,HG.out.alloc _ _⟩
    ·have hke:k=x.circles.length:=by omega
     have hs:tot (cIn ch) (x.circles.take k)=tot (cIn ch) x.circles:=by rw[hke,List.take_length]
     rw[hs]
     have HG:=Lib.hid hg;clear hke hs hg hk
     generalize tot (cIn ch) x.circles=r at *
     go_wp2
     go_ret
     exact⟨by rw[HP.out];first|rfl|(congr 1;done)|go_num,HG.out⟩
theorem transit_c(x:Book)(a0:Option Addr)(c0:Nat)(a1:Option Addr)(c1:Nat)(a2:Option Addr)(c2:Nat)(ch:Int)(w:World)(h1:SlR 7 repHtlc w 0 w.heap.size (.slice a1 x.htlcs.length c1) x.htlcs)(h2:SlR 5 repCircle w 0 w.heap.size (.slice a2 x.circles.length c2) x.circles)(sm:Small x) :
 Calls Tryz.prog 67 #[.agg #[.int .i64 x.tick,.int .i64 x.next,.int .i64 x.wallet,.slice a0 x.chans.length c0,.slice a1 x.htlcs.length c1,.slice a2 x.circles.length c2],.int .i64 ch] w fun e w'=>e=.returned (.tuple #[.int .i64 (outOf x ch),.int .i64 (intoOf x ch)])∧Grow w w':=by
 have H1:=Lib.hid h1;have H2:=Lib.hid h2;have SM:=Lib.hid sm
 have nh:=sm.nh
 have nc:=sm.nc
 clear h1 h2 sm
 go_enter Tryz.func67,Tryz.ntmps67
 go_wp2
 have hg0:Grow w (w.alloc (.cells #[.int .i64 x.tick,.int .i64 x.next,.int .i64 x.wallet,.slice a0 x.chans.length c0,.slice a1 x.htlcs.length c1,.slice a2 x.circles.length c2] 27)):=(Grow.refl _).alloc _ _
 have hb:BookAt (w.alloc (.cells #[.int .i64 x.tick,.int .i64 x.next,.int .i64 x.wallet,.slice a0 x.chans.length c0,.slice a1 x.htlcs.length c1,.slice a2 x.circles.length c2] 27)) w.heap.size x a0 c0 a1 c1 a2 c2:=BookAt.new x a0 c0 a1 c1 a2 c2 w
 obtain⟨W,hW⟩:∃W,W=w.alloc (.cells #[.int .i64 x.tick,.int .i64 x.next,.int .i64 x.wallet,.slice a0 x.chans.length c0,.slice a1 x.htlcs.length c1,.slice a2 x.circles.length c2] 27):=⟨_,rfl⟩
 rw[←hW]at hg0 hb ⊢
 have HB:=Lib.hid hb;have HG0:=Lib.hid hg0
 clear hW hb hg0
 go_loopg [6,7,15] x.htlcs.length (fun g n m i wr=>∃k:Nat,k+g=x.htlcs.length∧i=.int .i64 k∧n=.int .i64 (tot (hOut ch) (x.htlcs.take k))∧m=.int .i64 (tot (hIn ch) (x.htlcs.take k))∧Grow W wr)
 case atStart=>exact⟨0,by simp,rfl,rfl,rfl,Grow.refl _⟩
 case round=>
  obtain⟨k,hk,rfl,rfl,rfl,hg⟩:=hrel
  by_cases hlt:k<x.htlcs.length
  ·obtain⟨b,off,rfl,hb1,hb2,hel⟩:=H1.out.elems k hlt
   obtain⟨e0,e1,e2,e3,e4,e5,e6,_⟩:=Htlc.atCell (hel.same repHtlc_stable ((HG0.out.trans hg).same (Nat.le_refl _)) hb1 hb2) k hlt
   have HT:Hid (tot (hOut ch) (x.htlcs.take (k+1))=tot (hOut ch) (x.htlcs.take k)+hOut ch x.htlcs[k]):=tot_succ _ _ hlt
   have HT2:Hid (tot (hIn ch) (x.htlcs.take (k+1))=tot (hIn ch) (x.htlcs.take k)+hIn ch x.htlcs[k]):=tot_succ _ _ hlt
   obtain⟨s1,s2⟩:=tot_lim 60 (by omega) (SM.out.hOut ch) nh k
   obtain⟨s3,s4⟩:=tot_lim 60 (by omega) (SM.out.hIn ch) nh k
   obtain⟨v1,v2,v3,v4⟩:=SM.out.h x.htlcs[k] (List.getElem_mem hlt)
   have HG:=Lib.hid hg;have HK:=Lib.hid hk
   clear hg hk hel
   generalize x.htlcs[k]=e at *
   generalize tot (hOut ch) (x.htlcs.take k)=s at *
   generalize tot (hIn ch) (x.htlcs.take k)=r at *
   by_cases t:e.out=ch<;>by_cases t2:e.inn=ch
   all_goals
    have HV:Hid (hOut ch e=_):=(by first|exact if_pos t|exact if_neg t)
    have HV2:Hid (hIn ch e=_):=(by first|exact if_pos t2|exact if_neg t2)
    go_wp2
    go_roundg (x.htlcs.length-(k+1))
    case measure=>have:=HK.out;omega
    case rel=>exact⟨k+1,by have:=HK.out;omega,by go_num,by rw[HT.out,HV.out];try first|go_num|simp,by rw[HT2.out,HV2.out];try first|go_num|simp,HG.out.alloc _ _⟩
  ·have hke:k=x.htlcs.length:=by omega
   have hs:tot (hOut ch) (x.htlcs.take k)=tot (hOut ch) x.htlcs:=by rw[hke,List.take_length]
   have hs2:tot (hIn ch) (x.htlcs.take k)=tot (hIn ch) x.htlcs:=by rw[hke,List.take_length]
   obtain⟨s1,s2⟩:=tot_lim 60 (by omega) (SM.out.hOut ch) nh k
   obtain⟨s3,s4⟩:=tot_lim 60 (by omega) (SM.out.hIn ch) nh k
   rw[hs]at s1 s2 ⊢
   rw[hs2]at s3 s4 ⊢
   have HP:Hid (outOf x ch=tot (hOut ch) x.htlcs+tot (cOut ch) x.circles):=rfl
   have HP2:Hid (intoOf x ch=tot (hIn ch) x.htlcs+tot (cIn ch) x.circles):=rfl
   generalize tot (hOut ch) x.htlcs=s at *
   generalize tot (hIn ch) x.htlcs=r at *
   obtain⟨k0,k1,k2,k3,k4,k5⟩:=HB.out.grow hg
   have HGW:=Lib.hid (HG0.out.trans hg)
   clear hke hs hs2 hg hk
   go_wp2
   clear k0 k1 k2 k3 k4 k5
   go_loopg [6,7,39] x.circles.length (fun g n m i wr'=>∃k:Nat,k+g=x.circles.length∧i=.int .i64 k∧n=.int .i64 (s+tot (cOut ch) (x.circles.take k))∧m=.int .i64 (r+tot (cIn ch) (x.circles.take k))∧Grow w wr')
   case atStart=>exact⟨0,by simp,rfl,by simp[tot],by simp[tot],HGW.out⟩
   case round=>
    obtain⟨k,hk,rfl,rfl,rfl,hg⟩:=hrel
    by_cases hlt:k<x.circles.length
    ·obtain⟨b,off,rfl,hb1,hb2,hel⟩:=H2.out.elems k hlt
     obtain⟨e0,e1,e2,e3,e4,_⟩:=Circle.atCell (hel.same repCircle_stable (hg.same (Nat.le_refl _)) hb1 hb2) k hlt
     have HT:Hid (tot (cOut ch) (x.circles.take (k+1))=tot (cOut ch) (x.circles.take k)+cOut ch x.circles[k]):=tot_succ _ _ hlt
     have HT2:Hid (tot (cIn ch) (x.circles.take (k+1))=tot (cIn ch) (x.circles.take k)+cIn ch x.circles[k]):=tot_succ _ _ hlt
     obtain⟨s5,s6⟩:=tot_lim 20 (by omega) (SM.out.cOut ch) nc k
     obtain⟨s7,s8⟩:=tot_lim 20 (by omega) (SM.out.cIn ch) nc k
     obtain⟨v1,v2,v3,v4⟩:=SM.out.c x.circles[k] (List.getElem_mem hlt)
     have HG:=Lib.hid hg;have HK:=Lib.hid hk
     clear hg hk hel
     generalize x.circles[k]=e at *
     generalize tot (cOut ch) (x.circles.take k)=p at *
     generalize tot (cIn ch) (x.circles.take k)=q at *
     by_cases t:e.frm=ch<;>by_cases t2:e.to=ch
     all_goals
      have HV:Hid (cOut ch e=_):=(by first|exact if_pos t|exact if_neg t)
      have HV2:Hid (cIn ch e=_):=(by first|exact if_pos t2|exact if_neg t2)
      go_wp2
      go_roundg (x.circles.length-(k+1))
      case measure=>have:=HK.out;omega
      case rel=>exact⟨k+1,by have:=HK.out;omega,by go_num,by rw[HT.out,HV.out];try first|go_num|simp,by rw[HT2.out,HV2.out];try first|go_num|simp,HG.out.alloc _ _⟩
    ·have hke:k=x.circles.length:=by omega
     have hs:tot (cOut ch) (x.circles.take k)=tot (cOut ch) x.circles:=by rw[hke,List.take_length]
     have hs2:tot (cIn ch) (x.circles.take k)=tot (cIn ch) x.circles:=by rw[hke,List.take_length]
     rw[hs,hs2]
     have HG:=Lib.hid hg;clear hke hs hs2 hg hk
     generalize tot (cOut ch) x.circles=p at *
     generalize tot (cIn ch) x.circles=q at *
     go_wp2
     go_ret2
     exact⟨by rw[HP.out,HP2.out];first|rfl|(congr 1;done)|go_num,HG.out⟩
end Go.Proofs.YtogkbcmfoalpiaaGreat
