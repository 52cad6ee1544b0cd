/- BookOk of the reference. -/
import Derived.Test.YtnlpbgljaecdmaaKBook1
import Derived.Deep.RegionHeld3
namespace Go.Proofs.Ytnlpbgljaecdmaa
open Go.RowKit
set_option maxHeartbeats 16000000
set_option maxRecDepth 100000
set_option linter.unusedSimpArgs false
set_option linter.unusedVariables false
theorem wrapI{n:Int}(h1:-9223372036854775808≤n)(h2:n≤9223372036854775807):IntKind.i64.wrap n=n:=by
 simp[IntKind.wrap,IntKind.bits,IntKind.signed]
 omega
theorem spec_BookOk_c(x:Book)(a0:Option Addr)(c0:Nat)(a1:Option Addr)(c1:Nat)(a2:Option Addr)(c2:Nat)(w:World)(h0:SlR 7 repChan w 0 w.heap.size (.slice a0 x.chans.length c0) x.chans)(h1:SlR 7 repHtlc w 0 w.heap.size (.slice a1 x.htlcs.length c1) x.htlcs)(h2:SlR 5 repCircle w 0 w.heap.size (.slice a2 x.circles.length c2) x.circles)(hn:x.chans.length≤1048576) :
 Calls Try.prog 44 #[.agg #[.int .i64 x.tick,.int .i64 x.next,.int .i64 x.wallet,.slice a0 x.chans.length c0,.slice a1 x.htlcs.length c1,.slice a2 x.circles.length c2]] w fun e w'=>e=.returned (.bool (bookOk x))∧Grow w w':=by
 have hg0:Grow w (w.alloc (.cells #[.int .i64 x.tick,.int .i64 x.next,.int .i64 x.wallet,.slice a0 x.chans.length c0,.slice a1 x.htlcs.length c1,.slice a2 x.circles.length c2] 27)):=(Grow.refl _).alloc _ _
 have hb:BookAt (w.alloc (.cells #[.int .i64 x.tick,.int .i64 x.next,.int .i64 x.wallet,.slice a0 x.chans.length c0,.slice a1 x.htlcs.length c1,.slice a2 x.circles.length c2] 27)) w.heap.size x a0 c0 a1 c1 a2 c2:=BookAt.new x a0 c0 a1 c1 a2 c2 w
 have HB:=Lib.hid hb;have HG0:=Lib.hid hg0
 clear hb hg0
 have H0:=Lib.hid h0;have H1:=Lib.hid h1;have H2:=Lib.hid h2
 clear h0 h1 h2
 have HP:Hid (bookOk x=(amtOk x.tick&&amtOk x.wallet&&inB x.next 1 1125899906842624&&decide (x.chans.length≤20)&&partsOk x&&chansOk x)):=rfl
 have HPN:Hid (¬(x.htlcs.length≤60∧x.circles.length≤20)→partsOk x=false):=fun h=>by
  have t:(decide (x.htlcs.length≤60)&&decide (x.circles.length≤20))=false:=by
   rw[←Bool.decide_and];exact decide_eq_false h
  unfold partsOk;rw[t];simp
 by_cases m1:amtOk x.tick=true
 rotate_left
 ·have HR:Hid (bookOk x=false):=by
   show _=_
   rw[HP.out]
   simp[m1]
  have m1:amtOk x.tick=false:=by simpa using m1
  go_enter Try.func44,Try.ntmps44
  go_wp2_with (first
   |(go_at_call 46;refine(spec_AmtOk_c _ _).mono ?_;rintro e w' ⟨rfl,rfl⟩))
  all_goals first
   |(go_ret
     exact⟨by rw[HR.out];rfl,HG0.out.trans HGP.out⟩)
   |(go_ret
     exact⟨by rw[HR.out];rfl,HG0.out⟩)
 by_cases m2:amtOk x.wallet=true
 rotate_left
 ·have HR:Hid (bookOk x=false):=by
   show _=_
   rw[HP.out]
   simp[m2]
  have m2:amtOk x.wallet=false:=by simpa using m2
  go_enter Try.func44,Try.ntmps44
  go_wp2_with (first
   |(go_at_call 46;refine(spec_AmtOk_c _ _).mono ?_;rintro e w' ⟨rfl,rfl⟩))
  all_goals first
   |(go_ret
     exact⟨by rw[HR.out];rfl,HG0.out.trans HGP.out⟩)
   |(go_ret
     exact⟨by rw[HR.out];rfl,HG0.out⟩)
 by_cases c3:1≤x.next
 rotate_left
 ·have HR:Hid (bookOk x=false):=by
   show _=_
   rw[HP.out]
   have:inB x.next 1 1125899906842624=false:=inB_false.2 (by omega)
   simp[this]
  have qc3:decide (x.next<1)=true:=by simp;omega
  go_enter Try.func44,Try.ntmps44
  go_wp2_with (first
   |(go_at_call 46;refine(spec_AmtOk_c _ _).mono ?_;rintro e w' ⟨rfl,rfl⟩))
  all_goals first
   |(go_ret
     exact⟨by rw[HR.out];rfl,HG0.out.trans HGP.out⟩)
   |(go_ret
     exact⟨by rw[HR.out];rfl,HG0.out⟩)
 have qc3:decide (x.next<1)=false:=by simp;omega
 by_cases c3b:x.next≤1125899906842624
 rotate_left
 ·have HR:Hid (bookOk x=false):=by
   show _=_
   rw[HP.out]
   have:inB x.next 1 1125899906842624=false:=inB_false.2 (by omega)
   simp[this]
  have qc3b:decide (1125899906842624<x.next)=true:=by simp;omega
  go_enter Try.func44,Try.ntmps44
  go_wp2_with (first
   |(go_at_call 46;refine(spec_AmtOk_c _ _).mono ?_;rintro e w' ⟨rfl,rfl⟩))
  all_goals first
   |(go_ret
     exact⟨by rw[HR.out];rfl,HG0.out.trans HGP.out⟩)
   |(go_ret
     exact⟨by rw[HR.out];rfl,HG0.out⟩)
 have qc3b:decide (1125899906842624<x.next)=false:=by simp;omega
 by_cases c4:x.chans.length≤20
 rotate_left
 ·have HR:Hid (bookOk x=false):=by
   show _=_
   rw[HP.out]
   simp[c4]
  have qc4:decide ((20:Int)<(x.chans.length:Int))=true:=by simp;omega
  go_enter Try.func44,Try.ntmps44
  go_wp2_with (first
   |(go_at_call 46;refine(spec_AmtOk_c _ _).mono ?_;rintro e w' ⟨rfl,rfl⟩))
  all_goals first
   |(go_ret
     exact⟨by rw[HR.out];rfl,HG0.out.trans HGP.out⟩)
   |(go_ret
     exact⟨by rw[HR.out];rfl,HG0.out⟩)
 have qc4:decide ((20:Int)<(x.chans.length:Int))=false:=by simp;omega
 by_cases CNH:x.htlcs.length≤60
 rotate_left
 ·have HR:Hid (bookOk x=false):=by
   show _=_
   rw[HP.out]
   simp[HPN.out (by omega)]
  have qCNH:decide ((60:Int)<(x.htlcs.length:Int))=true:=by simp;omega
  go_enter Try.func44,Try.ntmps44
  go_wp2_with (first
   |(go_at_call 46;refine(spec_AmtOk_c _ _).mono ?_;rintro e w' ⟨rfl,rfl⟩))
  all_goals first
   |(go_ret
     exact⟨by rw[HR.out];rfl,HG0.out.trans HGP.out⟩)
   |(go_ret
     exact⟨by rw[HR.out];rfl,HG0.out⟩)
 have qCNH:decide ((60:Int)<(x.htlcs.length:Int))=false:=by simp;omega
 by_cases CNC:x.circles.length≤20
 rotate_left
 ·have HR:Hid (bookOk x=false):=by
   show _=_
   rw[HP.out]
   simp[HPN.out (by omega)]
  have qCNC:decide ((20:Int)<(x.circles.length:Int))=true:=by simp;omega
  go_enter Try.func44,Try.ntmps44
  go_wp2_with (first
   |(go_at_call 46;refine(spec_AmtOk_c _ _).mono ?_;rintro e w' ⟨rfl,rfl⟩))
  all_goals first
   |(go_ret
     exact⟨by rw[HR.out];rfl,HG0.out.trans HGP.out⟩)
   |(go_ret
     exact⟨by rw[HR.out];rfl,HG0.out⟩)
 have qCNC:decide ((20:Int)<(x.circles.length:Int))=false:=by simp;omega
 by_cases c5:partsOk x=true
 rotate_left
 ·have HR:Hid (bookOk x=false):=by
   show _=_
   rw[HP.out]
   simp[c5]
  have c5:partsOk x=false:=by simpa using c5
  go_enter Try.func44,Try.ntmps44
  go_wp2_with (first
   |(go_at_call 46;refine(spec_AmtOk_c _ _).mono ?_;rintro e w' ⟨rfl,rfl⟩)
   |(go_at_call 60;refine(spec_Under_c x _ _ _ _ _ _ _ (H0.out.grow' repChan_stable HG0.out.below) (H1.out.grow' repHtlc_stable HG0.out.below) (H2.out.grow' repCircle_stable HG0.out.below) hn CNH CNC).mono ?_;rintro e wp ⟨rfl,gp⟩
     have HGP:=Lib.hid gp;have bp:=HB.out.grow gp;have HBP:=Lib.hid bp;obtain⟨kp0,kp1,kp2,kp3,kp4,kp5⟩:=bp;clear gp))
  all_goals first
   |(go_ret
     exact⟨by rw[HR.out];rfl,HG0.out.trans HGP.out⟩)
   |(go_ret
     exact⟨by rw[HR.out];rfl,HG0.out⟩)
 have c3c:inB x.next 1 1125899906842624=true:=inB_true.2 ⟨c3,c3b⟩
 have SM:=Lib.hid (Small.of_parts c5)
 have HHEAD:Hid (bookOk x=chansOk x):=by
  show _=_
  rw[HP.out];simp[m1,m2,c3c,c4,c5]
 go_enter Try.func44,Try.ntmps44
 go_wp2_with (first
  |(go_at_call 46;refine(spec_AmtOk_c _ _).mono ?_;rintro e w' ⟨rfl,rfl⟩)
  |(go_at_call 60;refine(spec_Under_c x _ _ _ _ _ _ _ (H0.out.grow' repChan_stable HG0.out.below) (H1.out.grow' repHtlc_stable HG0.out.below) (H2.out.grow' repCircle_stable HG0.out.below) hn CNH CNC).mono ?_;rintro e wp ⟨rfl,gp⟩
    have HGP:=Lib.hid gp;have bp:=HB.out.grow gp;have HBP:=Lib.hid bp;obtain⟨kp0,kp1,kp2,kp3,kp4,kp5⟩:=bp;clear gp))
 clear kp0 kp1 kp2 kp3 kp4 kp5
 go_loopg [51] x.chans.length (fun g i wr=>∃k:Nat,k+g=x.chans.length∧i=.int .i64 k∧(∀j,j<k→chanAtOk x j=true)∧Grow wp wr)
 case atStart=>exact⟨0,by simp,rfl,fun j h=>absurd h (by omega),Grow.refl _⟩
 case round=>
  obtain⟨k,hk,rfl,hall,hg⟩:=hrel
  have HALL:=Lib.hid hall;clear hall
  have hgw:=(HG0.out.trans HGP.out).trans hg
  by_cases hlt:k<x.chans.length
  ·have HEL:=Lib.hid (H0.out.elems k hlt)
   obtain⟨b,off,ha,hb1,hb2,hel⟩:=HEL.out
   obtain⟨e0,e1,e2,e3,e4,e5,e6,_⟩:=Chan.atCell (hel.same repChan_stable (hgw.same (Nat.le_refl _)) hb1 hb2) k hlt
   subst ha
   have hgs:=hg.size
   have HG:=Lib.hid hg;have HGW:=Lib.hid hgw;have HK:=Lib.hid hk
   clear hg hgw hk hel
   have HCA:Hid (chanAtOk x k=(chanOk1 x.chans[k]&&ascAt x.chans k&&chanSum x x.chans[k])):=by
    show _=_
    unfold chanAtOk;rw[List.getElem?_eq_getElem hlt]
   have HPREV:Hid (∀j (h:j<x.chans.length),k=j+1→ascAt x.chans k=decide (x.chans[j].id<x.chans[k].id)∧wp.heap.size≤wr.heap.size):=fun j h he=>by
    subst he
    refine⟨?_,hgs⟩
    unfold ascAt
    simp[List.getElem?_eq_getElem h,List.getElem?_eq_getElem hlt]
   generalize x.chans[k]=e at *
   go_wp2_with fail
   obtain⟨V,hV⟩:∃V,V=wr.alloc (.cells #[.int .i64 e.id,.int .i64 e.size,.int .i64 e.loc,.int .i64 e.remote,.int .i64 e.base,.int .i64 e.ppm,.int .i64 e.score] 57):=⟨_,rfl⟩
   have gV:Grow wr V:=by rw[hV];exact(Grow.refl _).alloc _ _
   have v0:V.cell? ⟨wr.heap.size,0,none⟩=some (.int .i64 e.id):=by rw[hV];exact cell_new 0 rfl
   have v1:V.cell? ⟨wr.heap.size,1,none⟩=some (.int .i64 e.size):=by rw[hV];exact cell_new 1 rfl
   have v2:V.cell? ⟨wr.heap.size,2,none⟩=some (.int .i64 e.loc):=by rw[hV];exact cell_new 2 rfl
   have v3:V.cell? ⟨wr.heap.size,3,none⟩=some (.int .i64 e.remote):=by rw[hV];exact cell_new 3 rfl
   have v4:V.cell? ⟨wr.heap.size,4,none⟩=some (.int .i64 e.base):=by rw[hV];exact cell_new 4 rfl
   have v5:V.cell? ⟨wr.heap.size,5,none⟩=some (.int .i64 e.ppm):=by rw[hV];exact cell_new 5 rfl
   have v6:V.cell? ⟨wr.heap.size,6,none⟩=some (.int .i64 e.score):=by rw[hV];exact cell_new 6 rfl
   obtain⟨k0,k1,k2,k3,k4,k5⟩:=HB.out.grow ((HGP.out.trans HG.out).trans gV)
   rw[←hV]
   clear hV e0 e1 e2 e3 e4 e5 e6
   have HGV:=Lib.hid gV;clear gV
   have HNO:Hid (chanAtOk x k=false→chansOk x=false):=fun h=>chansOk_no hlt h
   rcases k with _|j
   ·have HCA:Hid (chanAtOk x 0=(chanOk1 e&&true&&chanSum x e)):=HCA
    by_cases t1:1≤e.id
    rotate_left
    ·have qt1:decide (e.id<1)=true:=by simp;omega
     have HR:Hid (bookOk x=false):=by
      show _=_
      rw[HHEAD.out];exact HNO.out (by rw[HCA.out];have:chOk e.id=false:=inB_false.2 (by omega);simp[chanOk1,this])
     go_quiet (first
      |(go_at_call 46;exact Calls.quiet_of_same (spec_AmtOk_q _ _))
      |(go_at_call 61;exact Calls.quiet_of_same (spec_scOk_q _ _)))
     go_wp2_with fail
     go_ret
     exact⟨by rw[HR.out];rfl,HGW.out.trans (HGV.out.drewN _)⟩
    have qt1:decide (e.id<1)=false:=by simp;omega
    by_cases t1b:e.id≤99
    rotate_left
    ·have qt1b:decide (99<e.id)=true:=by simp;omega
     have HR:Hid (bookOk x=false):=by
      show _=_
      rw[HHEAD.out];exact HNO.out (by rw[HCA.out];have:chOk e.id=false:=inB_false.2 (by omega);simp[chanOk1,this])
     go_quiet (first
      |(go_at_call 46;exact Calls.quiet_of_same (spec_AmtOk_q _ _))
      |(go_at_call 61;exact Calls.quiet_of_same (spec_scOk_q _ _)))
     go_wp2_with fail
     go_ret
     exact⟨by rw[HR.out];rfl,HGW.out.trans (HGV.out.drewN _)⟩
    have qt1b:decide (99<e.id)=false:=by simp;omega
    by_cases t3:amtOk e.loc=true
    rotate_left
    ·have t3:amtOk e.loc=false:=by simpa using t3
     have HR:Hid (bookOk x=false):=by
      show _=_
      rw[HHEAD.out];exact HNO.out (by rw[HCA.out];simp[chanOk1,t3])
     go_quiet (first
      |(go_at_call 46;exact Calls.quiet_of_same (spec_AmtOk_q _ _))
      |(go_at_call 61;exact Calls.quiet_of_same (spec_scOk_q _ _)))
     go_wp2_with fail
     go_ret
     exact⟨by rw[HR.out];rfl,HGW.out.trans (HGV.out.drewN _)⟩
    by_cases t4:amtOk e.remote=true
    rotate_left
    ·have t4:amtOk e.remote=false:=by simpa using t4
     have HR:Hid (bookOk x=false):=by
      show _=_
      rw[HHEAD.out];exact HNO.out (by rw[HCA.out];simp[chanOk1,t4])
     go_quiet (first
      |(go_at_call 46;exact Calls.quiet_of_same (spec_AmtOk_q _ _))
      |(go_at_call 61;exact Calls.quiet_of_same (spec_scOk_q _ _)))
     go_wp2_with fail
     go_ret
     exact⟨by rw[HR.out];rfl,HGW.out.trans (HGV.out.drewN _)⟩
    by_cases t5:amtOk e.base=true
    rotate_left
    ·have t5:amtOk e.base=false:=by simpa using t5
     have HR:Hid (bookOk x=false):=by
      show _=_
      rw[HHEAD.out];exact HNO.out (by rw[HCA.out];simp[chanOk1,t5])
     go_quiet (first
      |(go_at_call 46;exact Calls.quiet_of_same (spec_AmtOk_q _ _))
      |(go_at_call 61;exact Calls.quiet_of_same (spec_scOk_q _ _)))
     go_wp2_with fail
     go_ret
     exact⟨by rw[HR.out];rfl,HGW.out.trans (HGV.out.drewN _)⟩
    by_cases t6:0≤e.ppm
    rotate_left
    ·have qt6:decide (e.ppm<0)=true:=by simp;omega
     have HR:Hid (bookOk x=false):=by
      show _=_
      rw[HHEAD.out];exact HNO.out (by rw[HCA.out];have:inB e.ppm 0 1000000=false:=inB_false.2 (by omega);simp[chanOk1,this])
     go_quiet (first
      |(go_at_call 46;exact Calls.quiet_of_same (spec_AmtOk_q _ _))
      |(go_at_call 61;exact Calls.quiet_of_same (spec_scOk_q _ _)))
     go_wp2_with fail
     go_ret
     exact⟨by rw[HR.out];rfl,HGW.out.trans (HGV.out.drewN _)⟩
    have qt6:decide (e.ppm<0)=false:=by simp;omega
    by_cases t6b:e.ppm≤1000000
    rotate_left
    ·have qt6b:decide (1000000<e.ppm)=true:=by simp;omega
     have HR:Hid (bookOk x=false):=by
      show _=_
      rw[HHEAD.out];exact HNO.out (by rw[HCA.out];have:inB e.ppm 0 1000000=false:=inB_false.2 (by omega);simp[chanOk1,this])
     go_quiet (first
      |(go_at_call 46;exact Calls.quiet_of_same (spec_AmtOk_q _ _))
      |(go_at_call 61;exact Calls.quiet_of_same (spec_scOk_q _ _)))
     go_wp2_with fail
     go_ret
     exact⟨by rw[HR.out];rfl,HGW.out.trans (HGV.out.drewN _)⟩
    have qt6b:decide (1000000<e.ppm)=false:=by simp;omega
    by_cases t7:scOk e.score=true
    rotate_left
    ·have t7:scOk e.score=false:=by simpa using t7
     have HR:Hid (bookOk x=false):=by
      show _=_
      rw[HHEAD.out];exact HNO.out (by rw[HCA.out];simp[chanOk1,t7])
     go_quiet (first
      |(go_at_call 46;exact Calls.quiet_of_same (spec_AmtOk_q _ _))
      |(go_at_call 61;exact Calls.quiet_of_same (spec_scOk_q _ _)))
     go_wp2_with fail
     go_ret
     exact⟨by rw[HR.out];rfl,HGW.out.trans (HGV.out.drewN _)⟩
    have t1c:chOk e.id=true:=inB_true.2 ⟨t1,t1b⟩
    have t6c:inB e.ppm 0 1000000=true:=inB_true.2 ⟨t6,t6b⟩
    go_quiet (first
     |(go_at_call 46;exact Calls.quiet_of_same (spec_AmtOk_q _ _))
     |(go_at_call 61;exact Calls.quiet_of_same (spec_scOk_q _ _)))
    go_wp2_with fail
    obtain⟨U,hU⟩:∃U,U=V.drewN nq:=⟨_,rfl⟩
    have gU:Grow V U:=by rw[hU];exact(Grow.refl _).drewN _
    rw[←hU]
    clear hU
    have y0:U.cell? ⟨wr.heap.size,0,none⟩=some (.int .i64 e.id):=cellGrow gU v0
    have y1:U.cell? ⟨wr.heap.size,1,none⟩=some (.int .i64 e.size):=cellGrow gU v1
    have y2:U.cell? ⟨wr.heap.size,2,none⟩=some (.int .i64 e.loc):=cellGrow gU v2
    have y3:U.cell? ⟨wr.heap.size,3,none⟩=some (.int .i64 e.remote):=cellGrow gU v3
    clear v0 v1 v2 v3 v4 v5 v6 k0 k1 k2 k3 k4 k5
    have HGU:=Lib.hid ((HGW.out.trans HGV.out).trans gU)
    have HGU':=Lib.hid ((HG.out.trans HGV.out).trans gU)
    clear gU
    have bU:=HB.out.grow (HGP.out.trans HGU'.out)
    obtain⟨k0,k1,k2,k3,k4,k5⟩:=bU
    by_cases t8:amtOk e.size=true
    rotate_left
    ·have t8:amtOk e.size=false:=by simpa using t8
     have HR:Hid (bookOk x=false):=by
      show _=_
      rw[HHEAD.out];exact HNO.out (by rw[HCA.out];simp[chanOk1,t8])
     go_quiet (first
      |(go_at_call 46;exact Calls.quiet_of_same (spec_AmtOk_q _ _)))
     go_wp2_with fail
     go_ret
     exact⟨by rw[HR.out];rfl,HGU.out.drewN _⟩
    have HCS:Hid (chanSum x e=(e.size==e.loc+e.remote+outOf x e.id+intoOf x e.id)):=rfl
    have b3:=amtOk_true.1 t3
    have b4:=amtOk_true.1 t4
    obtain⟨o1,o2,o3,o4⟩:=sums_le SM.out e.id
    go_region_held3 (fun W=>W.cell? ⟨wr.heap.size,0,none⟩=some (.int .i64 e.id)∧W.cell? ⟨wr.heap.size,1,none⟩=some (.int .i64 e.size)∧W.cell? ⟨wr.heap.size,2,none⟩=some (.int .i64 e.loc)∧W.cell? ⟨wr.heap.size,3,none⟩=some (.int .i64 e.remote)∧W.cell? ⟨w.heap.size,0,none⟩=some (.int .i64 x.tick)∧W.cell? ⟨w.heap.size,1,none⟩=some (.int .i64 x.next)∧W.cell? ⟨w.heap.size,2,none⟩=some (.int .i64 x.wallet)∧W.cell? ⟨w.heap.size,3,none⟩=some (.slice (some ⟨b,off,none⟩) x.chans.length c0)∧W.cell? ⟨w.heap.size,4,none⟩=some (.slice a1 x.htlcs.length c1)∧W.cell? ⟨w.heap.size,5,none⟩=some (.slice a2 x.circles.length c2))
     (first
       |exact⟨y0,y1,y2,y3,k0,k1,k2,k3,k4,k5⟩
       |exact⟨cellGrow g1 y0,cellGrow g1 y1,cellGrow g1 y2,cellGrow g1 y3,cellGrow g1 k0,cellGrow g1 k1,cellGrow g1 k2,cellGrow g1 k3,cellGrow g1 k4,cellGrow g1 k5⟩
       |exact⟨cellGrow g2 (cellGrow g1 y0),cellGrow g2 (cellGrow g1 y1),cellGrow g2 (cellGrow g1 y2),cellGrow g2 (cellGrow g1 y3),cellGrow g2 (cellGrow g1 k0),cellGrow g2 (cellGrow g1 k1),cellGrow g2 (cellGrow g1 k2),cellGrow g2 (cellGrow g1 k3),cellGrow g2 (cellGrow g1 k4),cellGrow g2 (cellGrow g1 k5)⟩)
     (first
       |(go_at_call 46;refine(spec_AmtOk_c _ _).mono ?_;rintro e w' ⟨rfl,rfl⟩)
       |(go_at_call 62;refine(spec_Out_c x _ _ _ _ _ _ e.id _ ((H1.out.grow' repHtlc_stable HGU.out.below).grow' repHtlc_stable (Grow.below (by repeat (first|exact Grow.refl _|(refine Grow.alloc ?_ _ _)|(refine Grow.drew ?_)|(refine Grow.trans ?_ (by assumption)))))) ((H2.out.grow' repCircle_stable HGU.out.below).grow' repCircle_stable (Grow.below (by repeat (first|exact Grow.refl _|(refine Grow.alloc ?_ _ _)|(refine Grow.drew ?_)|(refine Grow.trans ?_ (by assumption)))))) SM.out).mono ?_;rintro e w1 ⟨rfl,g1⟩)
       |(go_at_call 63;refine(spec_In_c x _ _ _ _ _ _ e.id _ ((H1.out.grow' repHtlc_stable HGU.out.below).grow' repHtlc_stable (Grow.below (by repeat (first|exact Grow.refl _|(refine Grow.alloc ?_ _ _)|(refine Grow.drew ?_)|(refine Grow.trans ?_ (by assumption)))))) ((H2.out.grow' repCircle_stable HGU.out.below).grow' repCircle_stable (Grow.below (by repeat (first|exact Grow.refl _|(refine Grow.alloc ?_ _ _)|(refine Grow.drew ?_)|(refine Grow.trans ?_ (by assumption)))))) SM.out).mono ?_;rintro e w2 ⟨rfl,g2⟩))
    have HGZ:=Lib.hid (HGU.out.trans (show Grow U w2 from(((Grow.refl U).drew).trans g1).trans g2))
    have HGZ':=Lib.hid (HGU'.out.trans (show Grow U w2 from(((Grow.refl U).drew).trans g1).trans g2))
    clear g1 g2 y0 y1 y2 y3 k0 k1 k2 k3 k4 k5
    generalize outOf x e.id=po at *
    generalize intoOf x e.id=pi at *
    have hwr:IntKind.i64.wrap (IntKind.i64.wrap (IntKind.i64.wrap (e.loc+e.remote)+po)+pi)=e.loc+e.remote+po+pi:=by
     rw[wrapI (n:=e.loc+e.remote) (by omega) (by omega),wrapI (n:=e.loc+e.remote+po) (by omega) (by omega),wrapI (by omega) (by omega)]
    by_cases ts:e.loc+e.remote+po+pi=e.size
    ·have TS:=Lib.hid ts.symm
     go_wp2
     go_roundg (x.chans.length-(0+1))
     case measure=>have:=HK.out;omega
     case rel=>exact⟨0+1,by have:=HK.out;omega,by go_num,fun i hi=>by
      by_cases he:i=0
      ·rw[he,HCA.out,HCS.out];have h8:=t8;rw[TS.out]at h8;simp[chanOk1,TS.out,t1c,t3,t4,t5,t6c,t7,h8]
      ·exact HALL.out i (by omega),HGZ'.out⟩
    ·have TS:=Lib.hid (fun h=>ts (Eq.symm h))
     go_wp2
     go_ret
     exact⟨by rw[HHEAD.out,HNO.out (by rw[HCA.out,HCS.out,beq_eq_false_iff_ne.2 TS.out];simp)];rfl,HGZ.out⟩
   ·have hj:j<x.chans.length:=by omega
    obtain⟨b_,off_,ha_,_,_,hel⟩:=HEL.out
    injection ha_ with ha_
    injection ha_ with qb qo
    subst qb qo
    have HASC:=Lib.hid (HPREV.out j hj rfl).1
    obtain⟨f0,_⟩:=Chan.atCell (hel.same repChan_stable ((HGW.out.trans HGV.out).same (Nat.le_refl _)) hb1 hb2) j hj
    clear hel
    generalize x.chans[j].id=p at *
    have ej:((j+1:Nat):Int)-1=(j:Int):=by omega
    by_cases t1:1≤e.id
    rotate_left
    ·have qt1:decide (e.id<1)=true:=by simp;omega
     have HR:Hid (bookOk x=false):=by
      show _=_
      rw[HHEAD.out];exact HNO.out (by rw[HCA.out];have:chOk e.id=false:=inB_false.2 (by omega);simp[chanOk1,this])
     go_quiet (first
      |(go_at_call 46;exact Calls.quiet_of_same (spec_AmtOk_q _ _))
      |(go_at_call 61;exact Calls.quiet_of_same (spec_scOk_q _ _)))
     go_wp2_with fail
     go_ret
     exact⟨by rw[HR.out];rfl,HGW.out.trans (HGV.out.drewN _)⟩
    have qt1:decide (e.id<1)=false:=by simp;omega
    by_cases t1b:e.id≤99
    rotate_left
    ·have qt1b:decide (99<e.id)=true:=by simp;omega
     have HR:Hid (bookOk x=false):=by
      show _=_
      rw[HHEAD.out];exact HNO.out (by rw[HCA.out];have:chOk e.id=false:=inB_false.2 (by omega);simp[chanOk1,this])
     go_quiet (first
      |(go_at_call 46;exact Calls.quiet_of_same (spec_AmtOk_q _ _))
      |(go_at_call 61;exact Calls.quiet_of_same (spec_scOk_q _ _)))
     go_wp2_with fail
     go_ret
     exact⟨by rw[HR.out];rfl,HGW.out.trans (HGV.out.drewN _)⟩
    have qt1b:decide (99<e.id)=false:=by simp;omega
    by_cases t2:p<e.id
    rotate_left
    ·have qt2:decide (e.id≤p)=true:=by simp;omega
     have HR:Hid (bookOk x=false):=by
      show _=_
      rw[HHEAD.out];exact HNO.out (by rw[HCA.out];simp[HASC.out,t2])
     go_quiet (first
      |(go_at_call 46;exact Calls.quiet_of_same (spec_AmtOk_q _ _))
      |(go_at_call 61;exact Calls.quiet_of_same (spec_scOk_q _ _)))
     go_wp2_with fail
     go_ret
     exact⟨by rw[HR.out];rfl,HGW.out.trans (HGV.out.drewN _)⟩
    have qt2:decide (e.id≤p)=false:=by simp;omega
    by_cases t3:amtOk e.loc=true
    rotate_left
    ·have t3:amtOk e.loc=false:=by simpa using t3
     have HR:Hid (bookOk x=false):=by
      show _=_
      rw[HHEAD.out];exact HNO.out (by rw[HCA.out];simp[chanOk1,t3])
     go_quiet (first
      |(go_at_call 46;exact Calls.quiet_of_same (spec_AmtOk_q _ _))
      |(go_at_call 61;exact Calls.quiet_of_same (spec_scOk_q _ _)))
     go_wp2_with fail
     go_ret
     exact⟨by rw[HR.out];rfl,HGW.out.trans (HGV.out.drewN _)⟩
    by_cases t4:amtOk e.remote=true
    rotate_left
    ·have t4:amtOk e.remote=false:=by simpa using t4
     have HR:Hid (bookOk x=false):=by
      show _=_
      rw[HHEAD.out];exact HNO.out (by rw[HCA.out];simp[chanOk1,t4])
     go_quiet (first
      |(go_at_call 46;exact Calls.quiet_of_same (spec_AmtOk_q _ _))
      |(go_at_call 61;exact Calls.quiet_of_same (spec_scOk_q _ _)))
     go_wp2_with fail
     go_ret
     exact⟨by rw[HR.out];rfl,HGW.out.trans (HGV.out.drewN _)⟩
    by_cases t5:amtOk e.base=true
    rotate_left
    ·have t5:amtOk e.base=false:=by simpa using t5
     have HR:Hid (bookOk x=false):=by
      show _=_
      rw[HHEAD.out];exact HNO.out (by rw[HCA.out];simp[chanOk1,t5])
     go_quiet (first
      |(go_at_call 46;exact Calls.quiet_of_same (spec_AmtOk_q _ _))
      |(go_at_call 61;exact Calls.quiet_of_same (spec_scOk_q _ _)))
     go_wp2_with fail
     go_ret
     exact⟨by rw[HR.out];rfl,HGW.out.trans (HGV.out.drewN _)⟩
    by_cases t6:0≤e.ppm
    rotate_left
    ·have qt6:decide (e.ppm<0)=true:=by simp;omega
     have HR:Hid (bookOk x=false):=by
      show _=_
      rw[HHEAD.out];exact HNO.out (by rw[HCA.out];have:inB e.ppm 0 1000000=false:=inB_false.2 (by omega);simp[chanOk1,this])
     go_quiet (first
      |(go_at_call 46;exact Calls.quiet_of_same (spec_AmtOk_q _ _))
      |(go_at_call 61;exact Calls.quiet_of_same (spec_scOk_q _ _)))
     go_wp2_with fail
     go_ret
     exact⟨by rw[HR.out];rfl,HGW.out.trans (HGV.out.drewN _)⟩
    have qt6:decide (e.ppm<0)=false:=by simp;omega
    by_cases t6b:e.ppm≤1000000
    rotate_left
    ·have qt6b:decide (1000000<e.ppm)=true:=by simp;omega
     have HR:Hid (bookOk x=false):=by
      show _=_
      rw[HHEAD.out];exact HNO.out (by rw[HCA.out];have:inB e.ppm 0 1000000=false:=inB_false.2 (by omega);simp[chanOk1,this])
     go_quiet (first
      |(go_at_call 46;exact Calls.quiet_of_same (spec_AmtOk_q _ _))
      |(go_at_call 61;exact Calls.quiet_of_same (spec_scOk_q _ _)))
     go_wp2_with fail
     go_ret
     exact⟨by rw[HR.out];rfl,HGW.out.trans (HGV.out.drewN _)⟩
    have qt6b:decide (1000000<e.ppm)=false:=by simp;omega
    by_cases t7:scOk e.score=true
    rotate_left
    ·have t7:scOk e.score=false:=by simpa using t7
     have HR:Hid (bookOk x=false):=by
      show _=_
      rw[HHEAD.out];exact HNO.out (by rw[HCA.out];simp[chanOk1,t7])
     go_quiet (first
      |(go_at_call 46;exact Calls.quiet_of_same (spec_AmtOk_q _ _))
      |(go_at_call 61;exact Calls.quiet_of_same (spec_scOk_q _ _)))
     go_wp2_with fail
     go_ret
     exact⟨by rw[HR.out];rfl,HGW.out.trans (HGV.out.drewN _)⟩
    have t1c:chOk e.id=true:=inB_true.2 ⟨t1,t1b⟩
    have t6c:inB e.ppm 0 1000000=true:=inB_true.2 ⟨t6,t6b⟩
    go_quiet (first
     |(go_at_call 46;exact Calls.quiet_of_same (spec_AmtOk_q _ _))
     |(go_at_call 61;exact Calls.quiet_of_same (spec_scOk_q _ _)))
    go_wp2_with fail
    obtain⟨U,hU⟩:∃U,U=V.drewN nq:=⟨_,rfl⟩
    have gU:Grow V U:=by rw[hU];exact(Grow.refl _).drewN _
    rw[←hU]
    clear hU
    have y0:U.cell? ⟨wr.heap.size,0,none⟩=some (.int .i64 e.id):=cellGrow gU v0
    have y1:U.cell? ⟨wr.heap.size,1,none⟩=some (.int .i64 e.size):=cellGrow gU v1
    have y2:U.cell? ⟨wr.heap.size,2,none⟩=some (.int .i64 e.loc):=cellGrow gU v2
    have y3:U.cell? ⟨wr.heap.size,3,none⟩=some (.int .i64 e.remote):=cellGrow gU v3
    clear v0 v1 v2 v3 v4 v5 v6 k0 k1 k2 k3 k4 k5
    have HGU:=Lib.hid ((HGW.out.trans HGV.out).trans gU)
    have HGU':=Lib.hid ((HG.out.trans HGV.out).trans gU)
    clear gU
    have bU:=HB.out.grow (HGP.out.trans HGU'.out)
    obtain⟨k0,k1,k2,k3,k4,k5⟩:=bU
    by_cases t8:amtOk e.size=true
    rotate_left
    ·have t8:amtOk e.size=false:=by simpa using t8
     have HR:Hid (bookOk x=false):=by
      show _=_
      rw[HHEAD.out];exact HNO.out (by rw[HCA.out];simp[chanOk1,t8])
     go_quiet (first
      |(go_at_call 46;exact Calls.quiet_of_same (spec_AmtOk_q _ _)))
     go_wp2_with fail
     go_ret
     exact⟨by rw[HR.out];rfl,HGU.out.drewN _⟩
    have HCS:Hid (chanSum x e=(e.size==e.loc+e.remote+outOf x e.id+intoOf x e.id)):=rfl
    have b3:=amtOk_true.1 t3
    have b4:=amtOk_true.1 t4
    obtain⟨o1,o2,o3,o4⟩:=sums_le SM.out e.id
    have TT2:=Lib.hid t2
    go_region_held3 (fun W=>W.cell? ⟨wr.heap.size,0,none⟩=some (.int .i64 e.id)∧W.cell? ⟨wr.heap.size,1,none⟩=some (.int .i64 e.size)∧W.cell? ⟨wr.heap.size,2,none⟩=some (.int .i64 e.loc)∧W.cell? ⟨wr.heap.size,3,none⟩=some (.int .i64 e.remote)∧W.cell? ⟨w.heap.size,0,none⟩=some (.int .i64 x.tick)∧W.cell? ⟨w.heap.size,1,none⟩=some (.int .i64 x.next)∧W.cell? ⟨w.heap.size,2,none⟩=some (.int .i64 x.wallet)∧W.cell? ⟨w.heap.size,3,none⟩=some (.slice (some ⟨b,off,none⟩) x.chans.length c0)∧W.cell? ⟨w.heap.size,4,none⟩=some (.slice a1 x.htlcs.length c1)∧W.cell? ⟨w.heap.size,5,none⟩=some (.slice a2 x.circles.length c2))
     (first
       |exact⟨y0,y1,y2,y3,k0,k1,k2,k3,k4,k5⟩
       |exact⟨cellGrow g1 y0,cellGrow g1 y1,cellGrow g1 y2,cellGrow g1 y3,cellGrow g1 k0,cellGrow g1 k1,cellGrow g1 k2,cellGrow g1 k3,cellGrow g1 k4,cellGrow g1 k5⟩
       |exact⟨cellGrow g2 (cellGrow g1 y0),cellGrow g2 (cellGrow g1 y1),cellGrow g2 (cellGrow g1 y2),cellGrow g2 (cellGrow g1 y3),cellGrow g2 (cellGrow g1 k0),cellGrow g2 (cellGrow g1 k1),cellGrow g2 (cellGrow g1 k2),cellGrow g2 (cellGrow g1 k3),cellGrow g2 (cellGrow g1 k4),cellGrow g2 (cellGrow g1 k5)⟩)
     (first
       |(go_at_call 46;refine(spec_AmtOk_c _ _).mono ?_;rintro e w' ⟨rfl,rfl⟩)
       |(go_at_call 62;refine(spec_Out_c x _ _ _ _ _ _ e.id _ ((H1.out.grow' repHtlc_stable HGU.out.below).grow' repHtlc_stable (Grow.below (by repeat (first|exact Grow.refl _|(refine Grow.alloc ?_ _ _)|(refine Grow.drew ?_)|(refine Grow.trans ?_ (by assumption)))))) ((H2.out.grow' repCircle_stable HGU.out.below).grow' repCircle_stable (Grow.below (by repeat (first|exact Grow.refl _|(refine Grow.alloc ?_ _ _)|(refine Grow.drew ?_)|(refine Grow.trans ?_ (by assumption)))))) SM.out).mono ?_;rintro e w1 ⟨rfl,g1⟩)
       |(go_at_call 63;refine(spec_In_c x _ _ _ _ _ _ e.id _ ((H1.out.grow' repHtlc_stable HGU.out.below).grow' repHtlc_stable (Grow.below (by repeat (first|exact Grow.refl _|(refine Grow.alloc ?_ _ _)|(refine Grow.drew ?_)|(refine Grow.trans ?_ (by assumption)))))) ((H2.out.grow' repCircle_stable HGU.out.below).grow' repCircle_stable (Grow.below (by repeat (first|exact Grow.refl _|(refine Grow.alloc ?_ _ _)|(refine Grow.drew ?_)|(refine Grow.trans ?_ (by assumption)))))) SM.out).mono ?_;rintro e w2 ⟨rfl,g2⟩))
    have HGZ:=Lib.hid (HGU.out.trans (show Grow U w2 from(((Grow.refl U).drew).trans g1).trans g2))
    have HGZ':=Lib.hid (HGU'.out.trans (show Grow U w2 from(((Grow.refl U).drew).trans g1).trans g2))
    clear g1 g2 y0 y1 y2 y3 k0 k1 k2 k3 k4 k5
    generalize outOf x e.id=po at *
    generalize intoOf x e.id=pi at *
    have hwr:IntKind.i64.wrap (IntKind.i64.wrap (IntKind.i64.wrap (e.loc+e.remote)+po)+pi)=e.loc+e.remote+po+pi:=by
     rw[wrapI (n:=e.loc+e.remote) (by omega) (by omega),wrapI (n:=e.loc+e.remote+po) (by omega) (by omega),wrapI (by omega) (by omega)]
    by_cases ts:e.loc+e.remote+po+pi=e.size
    ·have TS:=Lib.hid ts.symm
     go_wp2
     go_roundg (x.chans.length-(j+1+1))
     case measure=>have:=HK.out;omega
     case rel=>exact⟨j+1+1,by have:=HK.out;omega,by go_num,fun i hi=>by
      by_cases he:i=j+1
      ·rw[he,HCA.out,HCS.out];have h8:=t8;rw[TS.out]at h8;simp[chanOk1,TS.out,t1c,t3,t4,t5,t6c,t7,h8,HASC.out,TT2.out]
      ·exact HALL.out i (by omega),HGZ'.out⟩
    ·have TS:=Lib.hid (fun h=>ts (Eq.symm h))
     go_wp2
     go_ret
     exact⟨by rw[HHEAD.out,HNO.out (by rw[HCA.out,HCS.out,beq_eq_false_iff_ne.2 TS.out];simp)];rfl,HGZ.out⟩
  ·have hr:chansOk x=true:=chansOk_yes (fun j hj=>HALL.out j (by omega))
   have HR:Hid (bookOk x=true):=HHEAD.out.trans hr
   have HGW:=Lib.hid hgw;clear hr hgw hg
   go_wp2
   go_ret
   exact⟨by rw[HR.out];rfl,HGW.out⟩
end Go.Proofs.Ytnlpbgljaecdmaa
