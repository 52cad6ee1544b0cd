/- BookOk of the program. -/
import Derived.Test.YtogkbcmfoalpiaaGreatKBook7
namespace Go.Proofs.YtogkbcmfoalpiaaGreat
open Go.RowKit
set_option maxHeartbeats 16000000
set_option maxRecDepth 100000
set_option linter.unusedSimpArgs false
set_option linter.unusedVariables false
theorem sums_le{x:Book}(s:Small x)(ch:Int):0≤outOf x ch∧outOf x ch≤112589990684262400∧0≤intoOf x ch∧intoOf x ch≤112589990684262400:=by
 have a:=tot_lim 60 (by omega) (s.hOut ch) s.nh x.htlcs.length
 have b:=tot_lim 60 (by omega) (s.hIn ch) s.nh x.htlcs.length
 have c:=tot_lim 20 (by omega) (s.cOut ch) s.nc x.circles.length
 have d:=tot_lim 20 (by omega) (s.cIn ch) s.nc x.circles.length
 rw[List.take_length]at a b c d
 unfold outOf intoOf
 omega
theorem impl_BookOk_c(x:Book)(a0:Option Addr)(c0:Nat)(a1:Option Addr)(c1:Nat)(a2:Option Addr)(c2:Nat)(w:World)(h0:SlR 7 repChan w 0 w.heap.size (.slice a0 x.chans.length c0) x.chans)(h1:SlR 7 repHtlc w 0 w.heap.size (.slice a1 x.htlcs.length c1) x.htlcs)(h2:SlR 5 repCircle w 0 w.heap.size (.slice a2 x.circles.length c2) x.circles)(hn:x.chans.length≤1048576) :
 Calls Tryz.prog 11 #[.agg #[.int .i64 x.tick,.int .i64 x.next,.int .i64 x.wallet,.slice a0 x.chans.length c0,.slice a1 x.htlcs.length c1,.slice a2 x.circles.length c2]] w fun e w'=>e=.returned (.bool (bookOk x))∧Grow w w':=by
 have hg0:Grow w (w.alloc (.cells #[.int .i64 x.tick,.int .i64 x.next,.int .i64 x.wallet,.slice a0 x.chans.length c0,.slice a1 x.htlcs.length c1,.slice a2 x.circles.length c2] 27)):=(Grow.refl _).alloc _ _
 have hb:BookAt (w.alloc (.cells #[.int .i64 x.tick,.int .i64 x.next,.int .i64 x.wallet,.slice a0 x.chans.length c0,.slice a1 x.htlcs.length c1,.slice a2 x.circles.length c2] 27)) w.heap.size x a0 c0 a1 c1 a2 c2:=BookAt.new x a0 c0 a1 c1 a2 c2 w
 have HB:=Lib.hid hb;have HG0:=Lib.hid hg0
 clear hb hg0
 have H0:=Lib.hid h0;have H1:=Lib.hid h1;have H2:=Lib.hid h2
 clear h0 h1 h2
 have HP:Hid (bookOk x=(amtOk x.tick&&amtOk x.wallet&&inB x.next 1 1125899906842624&&decide (x.chans.length≤20)&&partsOk x&&chansOk x)):=rfl
 by_cases c1:amtOk x.tick=true
 rotate_left
 ·have HR:Hid (bookOk x=false):=by
   show _=_
   rw[HP.out];simp[c1]
  have c1:amtOk x.tick=false:=by simpa using c1
  go_enter Tryz.func11,Tryz.ntmps11
  go_wp2_with (first
   |(go_at_call 62;refine(impl_AmtOk_c _ _).mono ?_;rintro e w' ⟨rfl,rfl⟩)
   |(go_at_call 63;refine(in_c _ _ _ _).mono ?_;rintro e w' ⟨rfl,rfl⟩)
   |(go_at_call 64;refine(impl_partsOk_c x _ _ _ _ _ _ _ (H0.out.grow' repChan_stable HG0.out.below) (H1.out.grow' repHtlc_stable HG0.out.below) (H2.out.grow' repCircle_stable HG0.out.below) hn).mono ?_;rintro e wp ⟨rfl,gp⟩
     have HGP:=Lib.hid gp;have bp:=HB.out.grow gp;have HBP:=Lib.hid bp;obtain⟨kp0,kp1,kp2,kp3,kp4,kp5⟩:=bp;clear gp))
  all_goals first
   |(go_ret
     exact⟨by rw[HR.out];rfl,HG0.out.trans HGP.out⟩)
   |(go_ret
     exact⟨by rw[HR.out];rfl,HG0.out⟩)
 by_cases c2:amtOk x.wallet=true
 rotate_left
 ·have HR:Hid (bookOk x=false):=by
   show _=_
   rw[HP.out];simp[c2]
  have c2:amtOk x.wallet=false:=by simpa using c2
  go_enter Tryz.func11,Tryz.ntmps11
  go_wp2_with (first
   |(go_at_call 62;refine(impl_AmtOk_c _ _).mono ?_;rintro e w' ⟨rfl,rfl⟩)
   |(go_at_call 63;refine(in_c _ _ _ _).mono ?_;rintro e w' ⟨rfl,rfl⟩)
   |(go_at_call 64;refine(impl_partsOk_c x _ _ _ _ _ _ _ (H0.out.grow' repChan_stable HG0.out.below) (H1.out.grow' repHtlc_stable HG0.out.below) (H2.out.grow' repCircle_stable HG0.out.below) hn).mono ?_;rintro e wp ⟨rfl,gp⟩
     have HGP:=Lib.hid gp;have bp:=HB.out.grow gp;have HBP:=Lib.hid bp;obtain⟨kp0,kp1,kp2,kp3,kp4,kp5⟩:=bp;clear gp))
  all_goals first
   |(go_ret
     exact⟨by rw[HR.out];rfl,HG0.out.trans HGP.out⟩)
   |(go_ret
     exact⟨by rw[HR.out];rfl,HG0.out⟩)
 by_cases c3:inB x.next 1 1125899906842624=true
 rotate_left
 ·have HR:Hid (bookOk x=false):=by
   show _=_
   rw[HP.out];simp[c3]
  have c3:inB x.next 1 1125899906842624=false:=by simpa using c3
  go_enter Tryz.func11,Tryz.ntmps11
  go_wp2_with (first
   |(go_at_call 62;refine(impl_AmtOk_c _ _).mono ?_;rintro e w' ⟨rfl,rfl⟩)
   |(go_at_call 63;refine(in_c _ _ _ _).mono ?_;rintro e w' ⟨rfl,rfl⟩)
   |(go_at_call 64;refine(impl_partsOk_c x _ _ _ _ _ _ _ (H0.out.grow' repChan_stable HG0.out.below) (H1.out.grow' repHtlc_stable HG0.out.below) (H2.out.grow' repCircle_stable HG0.out.below) hn).mono ?_;rintro e wp ⟨rfl,gp⟩
     have HGP:=Lib.hid gp;have bp:=HB.out.grow gp;have HBP:=Lib.hid bp;obtain⟨kp0,kp1,kp2,kp3,kp4,kp5⟩:=bp;clear gp))
  all_goals first
   |(go_ret
     exact⟨by rw[HR.out];rfl,HG0.out.trans HGP.out⟩)
   |(go_ret
     exact⟨by rw[HR.out];rfl,HG0.out⟩)
 by_cases c4:x.chans.length≤20
 rotate_left
 ·have HR:Hid (bookOk x=false):=by
   show _=_
   rw[HP.out];simp[c4]
  have q4:decide ((20:Int)<(x.chans.length:Int))=true:=by simp;omega
  go_enter Tryz.func11,Tryz.ntmps11
  go_wp2_with (first
   |(go_at_call 62;refine(impl_AmtOk_c _ _).mono ?_;rintro e w' ⟨rfl,rfl⟩)
   |(go_at_call 63;refine(in_c _ _ _ _).mono ?_;rintro e w' ⟨rfl,rfl⟩)
   |(go_at_call 64;refine(impl_partsOk_c x _ _ _ _ _ _ _ (H0.out.grow' repChan_stable HG0.out.below) (H1.out.grow' repHtlc_stable HG0.out.below) (H2.out.grow' repCircle_stable HG0.out.below) hn).mono ?_;rintro e wp ⟨rfl,gp⟩
     have HGP:=Lib.hid gp;have bp:=HB.out.grow gp;have HBP:=Lib.hid bp;obtain⟨kp0,kp1,kp2,kp3,kp4,kp5⟩:=bp;clear gp))
  all_goals first
   |(go_ret
     exact⟨by rw[HR.out];rfl,HG0.out.trans HGP.out⟩)
   |(go_ret
     exact⟨by rw[HR.out];rfl,HG0.out⟩)
 have q4:decide ((20:Int)<(x.chans.length:Int))=false:=by simp;omega
 by_cases c5:partsOk x=true
 rotate_left
 ·have HR:Hid (bookOk x=false):=by
   show _=_
   rw[HP.out];simp[c5]
  have c5:partsOk x=false:=by simpa using c5
  go_enter Tryz.func11,Tryz.ntmps11
  go_wp2_with (first
   |(go_at_call 62;refine(impl_AmtOk_c _ _).mono ?_;rintro e w' ⟨rfl,rfl⟩)
   |(go_at_call 63;refine(in_c _ _ _ _).mono ?_;rintro e w' ⟨rfl,rfl⟩)
   |(go_at_call 64;refine(impl_partsOk_c x _ _ _ _ _ _ _ (H0.out.grow' repChan_stable HG0.out.below) (H1.out.grow' repHtlc_stable HG0.out.below) (H2.out.grow' repCircle_stable HG0.out.below) hn).mono ?_;rintro e wp ⟨rfl,gp⟩
     have HGP:=Lib.hid gp;have bp:=HB.out.grow gp;have HBP:=Lib.hid bp;obtain⟨kp0,kp1,kp2,kp3,kp4,kp5⟩:=bp;clear gp))
  all_goals first
   |(go_ret
     exact⟨by rw[HR.out];rfl,HG0.out.trans HGP.out⟩)
   |(go_ret
     exact⟨by rw[HR.out];rfl,HG0.out⟩)
 have SM:=Lib.hid (Small.of_parts c5)
 go_enter Tryz.func11,Tryz.ntmps11
 go_wp2_with (first
  |(go_at_call 62;refine(impl_AmtOk_c _ _).mono ?_;rintro e w' ⟨rfl,rfl⟩)
  |(go_at_call 63;refine(in_c _ _ _ _).mono ?_;rintro e w' ⟨rfl,rfl⟩)
  |(go_at_call 64;refine(impl_partsOk_c x _ _ _ _ _ _ _ (H0.out.grow' repChan_stable HG0.out.below) (H1.out.grow' repHtlc_stable HG0.out.below) (H2.out.grow' repCircle_stable HG0.out.below) hn).mono ?_;rintro e wp ⟨rfl,gp⟩
    have HGP:=Lib.hid gp;have bp:=HB.out.grow gp;have HBP:=Lib.hid bp;obtain⟨kp0,kp1,kp2,kp3,kp4,kp5⟩:=bp;clear gp))
 clear kp0 kp1 kp2 kp3 kp4 kp5
 have HHEAD:Hid (bookOk x=chansOk x):=by
  show _=_
  rw[HP.out];simp[c1,c2,c3,c4,c5]
 go_loopg [37] x.chans.length (fun g i wr=>∃k:Nat,k+g=x.chans.length∧i=.int .i64 k∧(∀j,j<k→chanAtOk x j=true)∧Grow wp wr)
 case atStart=>exact⟨0,by simp,rfl,fun j h=>absurd h (by omega),Grow.refl _⟩
 case round=>
  obtain⟨k,hk,rfl,hall,hg⟩:=hrel
  have HALL:=Lib.hid hall;clear hall
  have hgw:=(HG0.out.trans HGP.out).trans hg
  by_cases hlt:k<x.chans.length
  ·have HEL:=Lib.hid (H0.out.elems k hlt)
   obtain⟨b,off,ha,hb1,hb2,hel⟩:=HEL.out
   obtain⟨e0,e1,e2,e3,e4,e5,e6,_⟩:=Chan.atCell (hel.same repChan_stable (hgw.same (Nat.le_refl _)) hb1 hb2) k hlt
   subst ha
   have hgs:=hg.size
   have HG:=Lib.hid hg;have HGW:=Lib.hid hgw;have HK:=Lib.hid hk
   clear hg hgw hk hel
   have HCA:Hid (chanAtOk x k=(chanOk1 x.chans[k]&&ascAt x.chans k&&chanSum x x.chans[k])):=by
    show _=_
    unfold chanAtOk;rw[List.getElem?_eq_getElem hlt]
   have HPREV:Hid (∀j (h:j<x.chans.length),k=j+1→ascAt x.chans k=decide (x.chans[j].id<x.chans[k].id)∧wp.heap.size≤wr.heap.size):=fun j h he=>by
    subst he
    refine⟨?_,hgs⟩
    unfold ascAt
    simp[List.getElem?_eq_getElem h,List.getElem?_eq_getElem hlt]
   generalize x.chans[k]=e at *
   go_wp2_with fail
   obtain⟨V,hV⟩:∃V,V=wr.alloc (.cells #[.int .i64 e.id,.int .i64 e.size,.int .i64 e.loc,.int .i64 e.remote,.int .i64 e.base,.int .i64 e.ppm,.int .i64 e.score] 40):=⟨_,rfl⟩
   have gV:Grow wr V:=by rw[hV];exact(Grow.refl _).alloc _ _
   have v0:V.cell? ⟨wr.heap.size,0,none⟩=some (.int .i64 e.id):=by rw[hV];exact cell_new 0 rfl
   have v1:V.cell? ⟨wr.heap.size,1,none⟩=some (.int .i64 e.size):=by rw[hV];exact cell_new 1 rfl
   have v2:V.cell? ⟨wr.heap.size,2,none⟩=some (.int .i64 e.loc):=by rw[hV];exact cell_new 2 rfl
   have v3:V.cell? ⟨wr.heap.size,3,none⟩=some (.int .i64 e.remote):=by rw[hV];exact cell_new 3 rfl
   have v4:V.cell? ⟨wr.heap.size,4,none⟩=some (.int .i64 e.base):=by rw[hV];exact cell_new 4 rfl
   have v5:V.cell? ⟨wr.heap.size,5,none⟩=some (.int .i64 e.ppm):=by rw[hV];exact cell_new 5 rfl
   have v6:V.cell? ⟨wr.heap.size,6,none⟩=some (.int .i64 e.score):=by rw[hV];exact cell_new 6 rfl
   obtain⟨k0,k1,k2,k3,k4,k5⟩:=HB.out.grow ((HGP.out.trans HG.out).trans gV)
   rw[←hV]
   clear hV e0 e1 e2 e3 e4 e5 e6
   have HGV:=Lib.hid gV;clear gV
   have HNO:Hid (chanAtOk x k=false→chansOk x=false):=fun h=>chansOk_no hlt h
   rcases k with _|j
   ·have HCA:Hid (chanAtOk x 0=(chanOk1 e&&true&&chanSum x e)):=HCA
    by_cases t1:chOk e.id=true
    rotate_left
    ·have t1:chOk e.id=false:=by simpa using t1
     have HR:Hid (bookOk x=false):=by
      show _=_
      rw[HHEAD.out];exact HNO.out (by rw[HCA.out];simp[chanOk1,t1])
     go_quiet (first
      |(go_at_call 65;exact Calls.quiet_of_same (isChan_q _ _))
      |(go_at_call 62;exact Calls.quiet_of_same (impl_AmtOk_q _ _))
      |(go_at_call 63;exact Calls.quiet_of_same (in_q _ _ _ _))
      |(go_at_call 66;exact Calls.quiet_of_same (impl_scOk_q _ _)))
     go_wp2_with fail
     go_ret
     exact⟨by rw[HR.out];rfl,HGW.out.trans (HGV.out.drewN _)⟩
    by_cases t3:amtOk e.loc=true
    rotate_left
    ·have t3:amtOk e.loc=false:=by simpa using t3
     have HR:Hid (bookOk x=false):=by
      show _=_
      rw[HHEAD.out];exact HNO.out (by rw[HCA.out];simp[chanOk1,t3])
     go_quiet (first
      |(go_at_call 65;exact Calls.quiet_of_same (isChan_q _ _))
      |(go_at_call 62;exact Calls.quiet_of_same (impl_AmtOk_q _ _))
      |(go_at_call 63;exact Calls.quiet_of_same (in_q _ _ _ _))
      |(go_at_call 66;exact Calls.quiet_of_same (impl_scOk_q _ _)))
     go_wp2_with fail
     go_ret
     exact⟨by rw[HR.out];rfl,HGW.out.trans (HGV.out.drewN _)⟩
    by_cases t4:amtOk e.remote=true
    rotate_left
    ·have t4:amtOk e.remote=false:=by simpa using t4
     have HR:Hid (bookOk x=false):=by
      show _=_
      rw[HHEAD.out];exact HNO.out (by rw[HCA.out];simp[chanOk1,t4])
     go_quiet (first
      |(go_at_call 65;exact Calls.quiet_of_same (isChan_q _ _))
      |(go_at_call 62;exact Calls.quiet_of_same (impl_AmtOk_q _ _))
      |(go_at_call 63;exact Calls.quiet_of_same (in_q _ _ _ _))
      |(go_at_call 66;exact Calls.quiet_of_same (impl_scOk_q _ _)))
     go_wp2_with fail
     go_ret
     exact⟨by rw[HR.out];rfl,HGW.out.trans (HGV.out.drewN _)⟩
    by_cases t5:amtOk e.base=true
    rotate_left
    ·have t5:amtOk e.base=false:=by simpa using t5
     have HR:Hid (bookOk x=false):=by
      show _=_
      rw[HHEAD.out];exact HNO.out (by rw[HCA.out];simp[chanOk1,t5])
     go_quiet (first
      |(go_at_call 65;exact Calls.quiet_of_same (isChan_q _ _))
      |(go_at_call 62;exact Calls.quiet_of_same (impl_AmtOk_q _ _))
      |(go_at_call 63;exact Calls.quiet_of_same (in_q _ _ _ _))
      |(go_at_call 66;exact Calls.quiet_of_same (impl_scOk_q _ _)))
     go_wp2_with fail
     go_ret
     exact⟨by rw[HR.out];rfl,HGW.out.trans (HGV.out.drewN _)⟩
    by_cases t6:inB e.ppm 0 1000000=true
    rotate_left
    ·have t6:inB e.ppm 0 1000000=false:=by simpa using t6
     have HR:Hid (bookOk x=false):=by
      show _=_
      rw[HHEAD.out];exact HNO.out (by rw[HCA.out];simp[chanOk1,t6])
     go_quiet (first
      |(go_at_call 65;exact Calls.quiet_of_same (isChan_q _ _))
      |(go_at_call 62;exact Calls.quiet_of_same (impl_AmtOk_q _ _))
      |(go_at_call 63;exact Calls.quiet_of_same (in_q _ _ _ _))
      |(go_at_call 66;exact Calls.quiet_of_same (impl_scOk_q _ _)))
     go_wp2_with fail
     go_ret
     exact⟨by rw[HR.out];rfl,HGW.out.trans (HGV.out.drewN _)⟩
    by_cases t7:scOk e.score=true
    rotate_left
    ·have t7:scOk e.score=false:=by simpa using t7
     have HR:Hid (bookOk x=false):=by
      show _=_
      rw[HHEAD.out];exact HNO.out (by rw[HCA.out];simp[chanOk1,t7])
     go_quiet (first
      |(go_at_call 65;exact Calls.quiet_of_same (isChan_q _ _))
      |(go_at_call 62;exact Calls.quiet_of_same (impl_AmtOk_q _ _))
      |(go_at_call 63;exact Calls.quiet_of_same (in_q _ _ _ _))
      |(go_at_call 66;exact Calls.quiet_of_same (impl_scOk_q _ _)))
     go_wp2_with fail
     go_ret
     exact⟨by rw[HR.out];rfl,HGW.out.trans (HGV.out.drewN _)⟩
    by_cases t8:amtOk e.size=true
    rotate_left
    ·have t8:amtOk e.size=false:=by simpa using t8
     have HR:Hid (bookOk x=false):=by
      show _=_
      rw[HHEAD.out];exact HNO.out (by rw[HCA.out];simp[chanOk1,t8])
     go_quiet (first
      |(go_at_call 65;exact Calls.quiet_of_same (isChan_q _ _))
      |(go_at_call 62;exact Calls.quiet_of_same (impl_AmtOk_q _ _))
      |(go_at_call 63;exact Calls.quiet_of_same (in_q _ _ _ _))
      |(go_at_call 66;exact Calls.quiet_of_same (impl_scOk_q _ _)))
     go_wp2_with fail
     go_ret
     exact⟨by rw[HR.out];rfl,HGW.out.trans (HGV.out.drewN _)⟩
    go_quiet (first
     |(go_at_call 65;exact Calls.quiet_of_same (isChan_q _ _))
     |(go_at_call 62;exact Calls.quiet_of_same (impl_AmtOk_q _ _))
     |(go_at_call 63;exact Calls.quiet_of_same (in_q _ _ _ _))
     |(go_at_call 66;exact Calls.quiet_of_same (impl_scOk_q _ _)))
    go_wp2_with fail
    have HGN:=Lib.hid (HGW.out.trans (HGV.out.drewN nq))
    refine(transit_c x _ _ _ _ _ _ e.id _ (H1.out.grow' repHtlc_stable HGN.out.below) (H2.out.grow' repCircle_stable HGN.out.below) SM.out).mono ?_
    rintro e' w9 ⟨rfl,g9⟩
    have y0:w9.cell? ⟨wr.heap.size,0,none⟩=some (.int .i64 e.id):=cellGrow (w:=V.drewN nq) g9 v0
    have y1:w9.cell? ⟨wr.heap.size,1,none⟩=some (.int .i64 e.size):=cellGrow (w:=V.drewN nq) g9 v1
    have y2:w9.cell? ⟨wr.heap.size,2,none⟩=some (.int .i64 e.loc):=cellGrow (w:=V.drewN nq) g9 v2
    have y3:w9.cell? ⟨wr.heap.size,3,none⟩=some (.int .i64 e.remote):=cellGrow (w:=V.drewN nq) g9 v3
    have y4:w9.cell? ⟨wr.heap.size,4,none⟩=some (.int .i64 e.base):=cellGrow (w:=V.drewN nq) g9 v4
    have y5:w9.cell? ⟨wr.heap.size,5,none⟩=some (.int .i64 e.ppm):=cellGrow (w:=V.drewN nq) g9 v5
    have y6:w9.cell? ⟨wr.heap.size,6,none⟩=some (.int .i64 e.score):=cellGrow (w:=V.drewN nq) g9 v6
    have HG9:=Lib.hid (HGN.out.trans g9)
    have HG9':=Lib.hid ((HG.out.trans (HGV.out.drewN nq)).trans g9)
    have b3:=amtOk_true.1 t3
    have b4:=amtOk_true.1 t4
    obtain⟨o1,o2,o3,o4⟩:=sums_le SM.out e.id
    have HCS:Hid (chanSum x e=(e.size==e.loc+e.remote+outOf x e.id+intoOf x e.id)):=rfl
    clear v0 v1 v2 v3 v4 v5 v6 k0 k1 k2 k3 k4 k5 g9
    generalize outOf x e.id=po at *
    generalize intoOf x e.id=pi at *
    by_cases ts:e.size=e.loc+e.remote+po+pi
    ·have TS:=Lib.hid ts
     go_wp2
     go_roundg (x.chans.length-(0+1))
     case measure=>have:=HK.out;omega
     case rel=>exact⟨0+1,by have:=HK.out;omega,by go_num,fun i hi=>by
      by_cases he:i=0
      ·have h8:=t8;rw[TS.out]at h8;rw[he,HCA.out,HCS.out];simp[chanOk1,TS.out,t1,t3,t4,t5,t6,t7,h8]
      ·exact HALL.out i (by omega),HG9'.out⟩
    ·have TS:=Lib.hid ts
     go_wp2
     go_ret
     exact⟨by rw[HHEAD.out,HNO.out (by rw[HCA.out,HCS.out];simp[TS.out])];rfl,HG9.out⟩
   ·have hj:j<x.chans.length:=by omega
    obtain⟨b_,off_,ha_,_,_,hel⟩:=HEL.out
    injection ha_ with ha_
    injection ha_ with qb qo
    subst qb qo
    have HASC:=Lib.hid (HPREV.out j hj rfl).1
    obtain⟨f0,_⟩:=Chan.atCell (hel.same repChan_stable ((HGW.out.trans HGV.out).same (Nat.le_refl _)) hb1 hb2) j hj
    clear hel
    generalize x.chans[j].id=p at *
    have ej:((j+1:Nat):Int)-1=(j:Int):=by omega
    by_cases t1:chOk e.id=true
    rotate_left
    ·have t1:chOk e.id=false:=by simpa using t1
     have HR:Hid (bookOk x=false):=by
      show _=_
      rw[HHEAD.out];exact HNO.out (by rw[HCA.out];simp[chanOk1,t1])
     go_quiet (first
      |(go_at_call 65;exact Calls.quiet_of_same (isChan_q _ _))
      |(go_at_call 62;exact Calls.quiet_of_same (impl_AmtOk_q _ _))
      |(go_at_call 63;exact Calls.quiet_of_same (in_q _ _ _ _))
      |(go_at_call 66;exact Calls.quiet_of_same (impl_scOk_q _ _)))
     go_wp2_with fail
     go_ret
     exact⟨by rw[HR.out];rfl,HGW.out.trans (HGV.out.drewN _)⟩
    by_cases t2:p<e.id
    rotate_left
    ·have q2:decide (e.id≤p)=true:=by simp;omega
     have HR:Hid (bookOk x=false):=by
      show _=_
      rw[HHEAD.out];exact HNO.out (by rw[HCA.out];simp[HASC.out,t2])
     go_quiet (first
      |(go_at_call 65;exact Calls.quiet_of_same (isChan_q _ _))
      |(go_at_call 62;exact Calls.quiet_of_same (impl_AmtOk_q _ _))
      |(go_at_call 63;exact Calls.quiet_of_same (in_q _ _ _ _))
      |(go_at_call 66;exact Calls.quiet_of_same (impl_scOk_q _ _)))
     go_wp2_with fail
     go_ret
     exact⟨by rw[HR.out];rfl,HGW.out.trans (HGV.out.drewN _)⟩
    have q2:decide (e.id≤p)=false:=by simp;omega
    by_cases t3:amtOk e.loc=true
    rotate_left
    ·have t3:amtOk e.loc=false:=by simpa using t3
     have HR:Hid (bookOk x=false):=by
      show _=_
      rw[HHEAD.out];exact HNO.out (by rw[HCA.out];simp[chanOk1,t3])
     go_quiet (first
      |(go_at_call 65;exact Calls.quiet_of_same (isChan_q _ _))
      |(go_at_call 62;exact Calls.quiet_of_same (impl_AmtOk_q _ _))
      |(go_at_call 63;exact Calls.quiet_of_same (in_q _ _ _ _))
      |(go_at_call 66;exact Calls.quiet_of_same (impl_scOk_q _ _)))
     go_wp2_with fail
     go_ret
     exact⟨by rw[HR.out];rfl,HGW.out.trans (HGV.out.drewN _)⟩
    by_cases t4:amtOk e.remote=true
    rotate_left
    ·have t4:amtOk e.remote=false:=by simpa using t4
     have HR:Hid (bookOk x=false):=by
      show _=_
      rw[HHEAD.out];exact HNO.out (by rw[HCA.out];simp[chanOk1,t4])
     go_quiet (first
      |(go_at_call 65;exact Calls.quiet_of_same (isChan_q _ _))
      |(go_at_call 62;exact Calls.quiet_of_same (impl_AmtOk_q _ _))
      |(go_at_call 63;exact Calls.quiet_of_same (in_q _ _ _ _))
      |(go_at_call 66;exact Calls.quiet_of_same (impl_scOk_q _ _)))
     go_wp2_with fail
     go_ret
     exact⟨by rw[HR.out];rfl,HGW.out.trans (HGV.out.drewN _)⟩
    by_cases t5:amtOk e.base=true
    rotate_left
    ·have t5:amtOk e.base=false:=by simpa using t5
     have HR:Hid (bookOk x=false):=by
      show _=_
      rw[HHEAD.out];exact HNO.out (by rw[HCA.out];simp[chanOk1,t5])
     go_quiet (first
      |(go_at_call 65;exact Calls.quiet_of_same (isChan_q _ _))
      |(go_at_call 62;exact Calls.quiet_of_same (impl_AmtOk_q _ _))
      |(go_at_call 63;exact Calls.quiet_of_same (in_q _ _ _ _))
      |(go_at_call 66;exact Calls.quiet_of_same (impl_scOk_q _ _)))
     go_wp2_with fail
     go_ret
     exact⟨by rw[HR.out];rfl,HGW.out.trans (HGV.out.drewN _)⟩
    by_cases t6:inB e.ppm 0 1000000=true
    rotate_left
    ·have t6:inB e.ppm 0 1000000=false:=by simpa using t6
     have HR:Hid (bookOk x=false):=by
      show _=_
      rw[HHEAD.out];exact HNO.out (by rw[HCA.out];simp[chanOk1,t6])
     go_quiet (first
      |(go_at_call 65;exact Calls.quiet_of_same (isChan_q _ _))
      |(go_at_call 62;exact Calls.quiet_of_same (impl_AmtOk_q _ _))
      |(go_at_call 63;exact Calls.quiet_of_same (in_q _ _ _ _))
      |(go_at_call 66;exact Calls.quiet_of_same (impl_scOk_q _ _)))
     go_wp2_with fail
     go_ret
     exact⟨by rw[HR.out];rfl,HGW.out.trans (HGV.out.drewN _)⟩
    by_cases t7:scOk e.score=true
    rotate_left
    ·have t7:scOk e.score=false:=by simpa using t7
     have HR:Hid (bookOk x=false):=by
      show _=_
      rw[HHEAD.out];exact HNO.out (by rw[HCA.out];simp[chanOk1,t7])
     go_quiet (first
      |(go_at_call 65;exact Calls.quiet_of_same (isChan_q _ _))
      |(go_at_call 62;exact Calls.quiet_of_same (impl_AmtOk_q _ _))
      |(go_at_call 63;exact Calls.quiet_of_same (in_q _ _ _ _))
      |(go_at_call 66;exact Calls.quiet_of_same (impl_scOk_q _ _)))
     go_wp2_with fail
     go_ret
     exact⟨by rw[HR.out];rfl,HGW.out.trans (HGV.out.drewN _)⟩
    by_cases t8:amtOk e.size=true
    rotate_left
    ·have t8:amtOk e.size=false:=by simpa using t8
     have HR:Hid (bookOk x=false):=by
      show _=_
      rw[HHEAD.out];exact HNO.out (by rw[HCA.out];simp[chanOk1,t8])
     go_quiet (first
      |(go_at_call 65;exact Calls.quiet_of_same (isChan_q _ _))
      |(go_at_call 62;exact Calls.quiet_of_same (impl_AmtOk_q _ _))
      |(go_at_call 63;exact Calls.quiet_of_same (in_q _ _ _ _))
      |(go_at_call 66;exact Calls.quiet_of_same (impl_scOk_q _ _)))
     go_wp2_with fail
     go_ret
     exact⟨by rw[HR.out];rfl,HGW.out.trans (HGV.out.drewN _)⟩
    go_quiet (first
     |(go_at_call 65;exact Calls.quiet_of_same (isChan_q _ _))
     |(go_at_call 62;exact Calls.quiet_of_same (impl_AmtOk_q _ _))
     |(go_at_call 63;exact Calls.quiet_of_same (in_q _ _ _ _))
     |(go_at_call 66;exact Calls.quiet_of_same (impl_scOk_q _ _)))
    go_wp2_with fail
    have HGN:=Lib.hid (HGW.out.trans (HGV.out.drewN nq))
    refine(transit_c x _ _ _ _ _ _ e.id _ (H1.out.grow' repHtlc_stable HGN.out.below) (H2.out.grow' repCircle_stable HGN.out.below) SM.out).mono ?_
    rintro e' w9 ⟨rfl,g9⟩
    have y0:w9.cell? ⟨wr.heap.size,0,none⟩=some (.int .i64 e.id):=cellGrow (w:=V.drewN nq) g9 v0
    have y1:w9.cell? ⟨wr.heap.size,1,none⟩=some (.int .i64 e.size):=cellGrow (w:=V.drewN nq) g9 v1
    have y2:w9.cell? ⟨wr.heap.size,2,none⟩=some (.int .i64 e.loc):=cellGrow (w:=V.drewN nq) g9 v2
    have y3:w9.cell? ⟨wr.heap.size,3,none⟩=some (.int .i64 e.remote):=cellGrow (w:=V.drewN nq) g9 v3
    have y4:w9.cell? ⟨wr.heap.size,4,none⟩=some (.int .i64 e.base):=cellGrow (w:=V.drewN nq) g9 v4
    have y5:w9.cell? ⟨wr.heap.size,5,none⟩=some (.int .i64 e.ppm):=cellGrow (w:=V.drewN nq) g9 v5
    have y6:w9.cell? ⟨wr.heap.size,6,none⟩=some (.int .i64 e.score):=cellGrow (w:=V.drewN nq) g9 v6
    have HG9:=Lib.hid (HGN.out.trans g9)
    have HG9':=Lib.hid ((HG.out.trans (HGV.out.drewN nq)).trans g9)
    have b3:=amtOk_true.1 t3
    have b4:=amtOk_true.1 t4
    obtain⟨o1,o2,o3,o4⟩:=sums_le SM.out e.id
    have TT2:=Lib.hid t2
    have HCS:Hid (chanSum x e=(e.size==e.loc+e.remote+outOf x e.id+intoOf x e.id)):=rfl
    clear v0 v1 v2 v3 v4 v5 v6 k0 k1 k2 k3 k4 k5 g9
    generalize outOf x e.id=po at *
    generalize intoOf x e.id=pi at *
    by_cases ts:e.size=e.loc+e.remote+po+pi
    ·have TS:=Lib.hid ts
     go_wp2
     go_roundg (x.chans.length-(j+1+1))
     case measure=>have:=HK.out;omega
     case rel=>exact⟨j+1+1,by have:=HK.out;omega,by go_num,fun i hi=>by
      by_cases he:i=j+1
      ·have h8:=t8;rw[TS.out]at h8;rw[he,HCA.out,HCS.out];simp[chanOk1,TS.out,t1,t3,t4,t5,t6,t7,h8,HASC.out,TT2.out]
      ·exact HALL.out i (by omega),HG9'.out⟩
    ·have TS:=Lib.hid ts
     go_wp2
     go_ret
     exact⟨by rw[HHEAD.out,HNO.out (by rw[HCA.out,HCS.out];simp[TS.out])];rfl,HG9.out⟩
  ·have hr:chansOk x=true:=chansOk_yes (fun j hj=>HALL.out j (by omega))
   have HR:Hid (bookOk x=true):=HHEAD.out.trans hr
   have HGW:=Lib.hid hgw;clear hr hgw hg
   go_wp2
   go_ret
   exact⟨by rw[HR.out];rfl,HGW.out⟩
end Go.Proofs.YtogkbcmfoalpiaaGreat
