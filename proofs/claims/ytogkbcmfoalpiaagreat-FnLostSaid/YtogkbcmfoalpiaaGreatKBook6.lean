/- A book: what is under way is valid, of the reference. -/
import Derived.Test.YtogkbcmfoalpiaaGreatKBook5
namespace Go.Proofs.YtogkbcmfoalpiaaGreat
open Go.RowKit
set_option maxHeartbeats 16000000
set_option maxRecDepth 100000
set_option linter.unusedSimpArgs false
set_option linter.unusedVariables false
theorem hasTake2_c(xs:List Int)(a:Option Addr)(c k:Nat)(n:Int)(lo hi:Nat)(w:World)(h0:SlR 1 repInt w lo hi (.slice a xs.length c) xs)(hk:k≤xs.length)(hn:xs.length≤1048576) :
 Calls Tryz.prog 109 #[.slice a k c,.int .i64 n] w fun e w'=>e=.returned (.bool (hasI (xs.take k) n))∧w=w':=by
 have hl:(xs.take k).length=k:=by rw[List.length_take];omega
 have:=spec_HasInt_c (xs.take k) a c n lo hi w (h0.take k hk) (by omega)
 rw[hl]at this
 exact this
theorem spec_Under_c(x:Book)(a0:Option Addr)(c0:Nat)(a1:Option Addr)(c1:Nat)(a2:Option Addr)(c2:Nat)(w:World)(h0:SlR 7 repChan w 0 w.heap.size (.slice a0 x.chans.length c0) x.chans)(h1:SlR 7 repHtlc w 0 w.heap.size (.slice a1 x.htlcs.length c1) x.htlcs)(h2:SlR 5 repCircle w 0 w.heap.size (.slice a2 x.circles.length c2) x.circles)(hn:x.chans.length≤1048576)(nh:x.htlcs.length≤60)(nc:x.circles.length≤20) :
 Calls Tryz.prog 77 #[.agg #[.int .i64 x.tick,.int .i64 x.next,.int .i64 x.wallet,.slice a0 x.chans.length c0,.slice a1 x.htlcs.length c1,.slice a2 x.circles.length c2]] w fun e w'=>e=.returned (.bool (partsOk x))∧Grow w w':=by
 have hlen:(keysOf x).length≤80:=by unfold keysOf;rw[List.length_append,List.length_map,List.length_map];omega
 have HLEN:=Lib.hid hlen;clear hlen
 have H0:=Lib.hid h0;have H1:=Lib.hid h1;have H2:=Lib.hid h2
 clear h0 h1 h2
 have hg0:Grow w (w.alloc (.cells #[.int .i64 x.tick,.int .i64 x.next,.int .i64 x.wallet,.slice a0 x.chans.length c0,.slice a1 x.htlcs.length c1,.slice a2 x.circles.length c2] 27)):=(Grow.refl _).alloc _ _
 have hb:BookAt (w.alloc (.cells #[.int .i64 x.tick,.int .i64 x.next,.int .i64 x.wallet,.slice a0 x.chans.length c0,.slice a1 x.htlcs.length c1,.slice a2 x.circles.length c2] 27)) w.heap.size x a0 c0 a1 c1 a2 c2:=BookAt.new x a0 c0 a1 c1 a2 c2 w
 have HB:=Lib.hid hb;have HG0:=Lib.hid hg0
 clear hb hg0
 go_enter Tryz.func77,Tryz.ntmps77
 go_wp2
 obtain⟨W,hW⟩:∃W,W=w.alloc (.cells #[.int .i64 x.tick,.int .i64 x.next,.int .i64 x.wallet,.slice a0 x.chans.length c0,.slice a1 x.htlcs.length c1,.slice a2 x.circles.length c2] 27):=⟨_,rfl⟩
 rw[←hW]at HB HG0 ⊢
 clear hW
 go_loopg [13] x.htlcs.length (fun g i wr=>∃k:Nat,k+g=x.htlcs.length∧i=.int .i64 k∧(x.htlcs.take k).all (hOk x.chans)=true∧Grow W wr)
 case atStart=>exact⟨0,by simp,rfl,by simp,Grow.refl _⟩
 case round=>
  obtain⟨k,hk,rfl,hall,hg⟩:=hrel
  have HALL:=Lib.hid hall;clear hall
  by_cases hlt:k<x.htlcs.length
  ·obtain⟨b,off,rfl,hb1,hb2,hel⟩:=H1.out.elems k hlt
   obtain⟨e0,e1,e2,e3,e4,e5,e6,_⟩:=Htlc.atCell (hel.same repHtlc_stable ((HG0.out.trans hg).same (Nat.le_refl _)) hb1 hb2) k hlt
   obtain⟨k0,k1,k2,k3,k4,k5⟩:=HB.out.grow hg
   have hzw:w.heap.size<wr.heap.size:=lt_of_cell k0
   have hz0':b<wr.heap.size:=by have:=(HG0.out.trans hg).size;omega
   have HE:Hid (hOk x.chans x.htlcs[k]=false→partsOk x=false):=fun h=>by
    unfold partsOk;rw[all_false_of hlt h];simp
   have HT:Hid ((x.htlcs.take (k+1)).all (hOk x.chans)=((x.htlcs.take k).all (hOk x.chans)&&hOk x.chans x.htlcs[k])):=all_take_succ hlt
   have HG:=Lib.hid hg;have HK:=Lib.hid hk
   clear hg hk hel
   generalize x.htlcs[k]=e at *
   by_cases hok:hOk x.chans e=true
   ·obtain⟨d1,d2,d3,d4,d5⟩:=hOk_iff.1 hok
    have d6:amtOk e.amtOut=true:=by have:=amtOk_true.1 d1;exact amtOk_true.2 ⟨by omega,by omega⟩
    have HOK:=Lib.hid hok;clear hok
    go_wp2_with (first
     |(go_at_call 76;refine(spec_AmtOk_c _ _).mono ?_;rintro e w' ⟨rfl,rfl⟩)
     |(go_at_call 111;refine(spec_Two_c x _ _ _ _ _ _ _ _ _ (H0.out.grow' repChan_stable ((HG0.out.trans HG.out).alloc _ _).below) hn).mono ?_;rintro e wc ⟨rfl,gc⟩
       have kc0:wc.cell? ⟨wr.heap.size,0,none⟩=some (.int .i64 e.key):=cellGrow gc (cell_new 0 rfl)
       have kc1:wc.cell? ⟨wr.heap.size,1,none⟩=some (.int .i64 e.inn):=cellGrow gc (cell_new 1 rfl)
       have kc2:wc.cell? ⟨wr.heap.size,2,none⟩=some (.int .i64 e.out):=cellGrow gc (cell_new 2 rfl)
       have kc3:wc.cell? ⟨wr.heap.size,3,none⟩=some (.int .i64 e.amtIn):=cellGrow gc (cell_new 3 rfl)
       have kc4:wc.cell? ⟨wr.heap.size,4,none⟩=some (.int .i64 e.amtOut):=cellGrow gc (cell_new 4 rfl)
       have kc5:wc.cell? ⟨wr.heap.size,5,none⟩=some (.bool e.kept):=cellGrow gc (cell_new 5 rfl)
       have kc6:wc.cell? ⟨wr.heap.size,6,none⟩=some (.int .i64 e.age):=cellGrow gc (cell_new 6 rfl)
       have hgc:=(HG.out.alloc _ _).trans gc
       have HGC:=Lib.hid hgc;clear hgc gc))
    go_roundg (x.htlcs.length-(k+1))
    case measure=>have:=HK.out;omega
    case rel=>exact⟨k+1,by have:=HK.out;omega,by go_num,by rw[HT.out,HALL.out,HOK.out];rfl,HGC.out⟩
   ·have hr:=HE.out (by simpa using hok)
    have HR:=Lib.hid hr;have HOK:=Lib.hid hok;clear hr hok
    cases d5:two x.chans e.inn e.out<;>cases d4:amtOk e.age
    all_goals
     go_wp2_with (first
      |(go_at_call 76;refine(spec_AmtOk_c _ _).mono ?_;rintro e w' ⟨rfl,rfl⟩)
      |(go_at_call 111;refine(spec_Two_c x _ _ _ _ _ _ _ _ _ (H0.out.grow' repChan_stable ((HG0.out.trans HG.out).alloc _ _).below) hn).mono ?_;rintro e wc ⟨rfl,gc⟩
        have kc0:wc.cell? ⟨wr.heap.size,0,none⟩=some (.int .i64 e.key):=cellGrow gc (cell_new 0 rfl)
        have kc1:wc.cell? ⟨wr.heap.size,1,none⟩=some (.int .i64 e.inn):=cellGrow gc (cell_new 1 rfl)
        have kc2:wc.cell? ⟨wr.heap.size,2,none⟩=some (.int .i64 e.out):=cellGrow gc (cell_new 2 rfl)
        have kc3:wc.cell? ⟨wr.heap.size,3,none⟩=some (.int .i64 e.amtIn):=cellGrow gc (cell_new 3 rfl)
        have kc4:wc.cell? ⟨wr.heap.size,4,none⟩=some (.int .i64 e.amtOut):=cellGrow gc (cell_new 4 rfl)
        have kc5:wc.cell? ⟨wr.heap.size,5,none⟩=some (.bool e.kept):=cellGrow gc (cell_new 5 rfl)
        have kc6:wc.cell? ⟨wr.heap.size,6,none⟩=some (.int .i64 e.age):=cellGrow gc (cell_new 6 rfl)
        have hgc:=(HG.out.alloc _ _).trans gc
        have HGC:=Lib.hid hgc;clear hgc gc))
     all_goals first
      |(go_ret
        exact⟨by rw[HR.out];rfl,HG0.out.trans HGC.out⟩)
      |(exfalso;exact HOK.out (hOk_iff.2 ⟨by assumption,by omega,by omega,by assumption,by assumption⟩))
  ·have hke:k=x.htlcs.length:=by omega
   have HAH:=HALL.out
   rw[hke,List.take_length]at HAH
   obtain⟨k0,k1,k2,k3,k4,k5⟩:=HB.out.grow hg
   have HGA:=Lib.hid hg;have HAH':=Lib.hid HAH
   clear hke hk hg HAH HALL
   go_wp2
   clear k0 k1 k2 k3 k4 k5
   go_loopg [58] x.circles.length (fun g i wr=>∃k:Nat,k+g=x.circles.length∧i=.int .i64 k∧(x.circles.take k).all (cOk x.chans)=true∧Grow W wr)
   case atStart=>exact⟨0,by simp,rfl,by simp,HGA.out⟩
   case round=>
    obtain⟨k,hk,rfl,hall,hg⟩:=hrel
    have HALL:=Lib.hid hall;clear hall
    by_cases hlt:k<x.circles.length
    ·obtain⟨b,off,rfl,hb1,hb2,hel⟩:=H2.out.elems k hlt
     obtain⟨e0,e1,e2,e3,e4,_⟩:=Circle.atCell (hel.same repCircle_stable ((HG0.out.trans hg).same (Nat.le_refl _)) hb1 hb2) k hlt
     obtain⟨k0,k1,k2,k3,k4,k5⟩:=HB.out.grow hg
     have hzw:w.heap.size<wr.heap.size:=lt_of_cell k0
     have hz0':b<wr.heap.size:=by have:=(HG0.out.trans hg).size;omega
     have HE:Hid (cOk x.chans x.circles[k]=false→partsOk x=false):=fun h=>by
      unfold partsOk;rw[all_false_of hlt h];simp
     have HT:Hid ((x.circles.take (k+1)).all (cOk x.chans)=((x.circles.take k).all (cOk x.chans)&&cOk x.chans x.circles[k])):=all_take_succ hlt
     have HG:=Lib.hid hg;have HK:=Lib.hid hk
     clear hg hk hel
     generalize x.circles[k]=e at *
     by_cases hok:cOk x.chans e=true
     ·obtain⟨d1,d2,d3,d5⟩:=cOk_iff.1 hok
      have HOK:=Lib.hid hok;clear hok
      go_wp2_with (first
       |(go_at_call 76;refine(spec_AmtOk_c _ _).mono ?_;rintro e w' ⟨rfl,rfl⟩)
       |(go_at_call 111;refine(spec_Two_c x _ _ _ _ _ _ _ _ _ (H0.out.grow' repChan_stable ((HG0.out.trans HG.out).alloc _ _).below) hn).mono ?_;rintro e wc ⟨rfl,gc⟩
         have kc0:wc.cell? ⟨wr.heap.size,0,none⟩=some (.int .i64 e.key):=cellGrow gc (cell_new 0 rfl)
         have kc1:wc.cell? ⟨wr.heap.size,1,none⟩=some (.int .i64 e.frm):=cellGrow gc (cell_new 1 rfl)
         have kc2:wc.cell? ⟨wr.heap.size,2,none⟩=some (.int .i64 e.to):=cellGrow gc (cell_new 2 rfl)
         have kc3:wc.cell? ⟨wr.heap.size,3,none⟩=some (.int .i64 e.amt):=cellGrow gc (cell_new 3 rfl)
         have kc4:wc.cell? ⟨wr.heap.size,4,none⟩=some (.int .i64 e.fee):=cellGrow gc (cell_new 4 rfl)
         have hgc:=(HG.out.alloc _ _).trans gc
         have HGC:=Lib.hid hgc;clear hgc gc))
      go_roundg (x.circles.length-(k+1))
      case measure=>have:=HK.out;omega
      case rel=>exact⟨k+1,by have:=HK.out;omega,by go_num,by rw[HT.out,HALL.out,HOK.out];rfl,HGC.out⟩
     ·have hr:=HE.out (by simpa using hok)
      have HR:=Lib.hid hr;have HOK:=Lib.hid hok;clear hr hok
      cases d5:two x.chans e.frm e.to<;>cases d4:amtOk e.fee
      all_goals
       go_wp2_with (first
        |(go_at_call 76;refine(spec_AmtOk_c _ _).mono ?_;rintro e w' ⟨rfl,rfl⟩)
        |(go_at_call 111;refine(spec_Two_c x _ _ _ _ _ _ _ _ _ (H0.out.grow' repChan_stable ((HG0.out.trans HG.out).alloc _ _).below) hn).mono ?_;rintro e wc ⟨rfl,gc⟩
          have kc0:wc.cell? ⟨wr.heap.size,0,none⟩=some (.int .i64 e.key):=cellGrow gc (cell_new 0 rfl)
          have kc1:wc.cell? ⟨wr.heap.size,1,none⟩=some (.int .i64 e.frm):=cellGrow gc (cell_new 1 rfl)
          have kc2:wc.cell? ⟨wr.heap.size,2,none⟩=some (.int .i64 e.to):=cellGrow gc (cell_new 2 rfl)
          have kc3:wc.cell? ⟨wr.heap.size,3,none⟩=some (.int .i64 e.amt):=cellGrow gc (cell_new 3 rfl)
          have kc4:wc.cell? ⟨wr.heap.size,4,none⟩=some (.int .i64 e.fee):=cellGrow gc (cell_new 4 rfl)
          have hgc:=(HG.out.alloc _ _).trans gc
          have HGC:=Lib.hid hgc;clear hgc gc))
       all_goals first
        |(go_ret
          exact⟨by rw[HR.out];rfl,HG0.out.trans HGC.out⟩)
        |(exfalso;exact HOK.out (cOk_iff.2 ⟨by assumption,by omega,by assumption,by assumption⟩))
    ·have hke:k=x.circles.length:=by omega
     have HAC:=HALL.out
     rw[hke,List.take_length]at HAC
     obtain⟨k0,k1,k2,k3,k4,k5⟩:=HB.out.grow hg
     have HNO:Hid (∀j,j<(keysOf x).length→keyAt (keysOf x) j=false→partsOk x=false):=fun j h1 h2=>by
      unfold partsOk;rw[keysOk_no h1 h2];simp
     have HYES:Hid ((∀j,j<(keysOf x).length→keyAt (keysOf x) j=true)→partsOk x=true):=fun h=>by
      unfold partsOk;rw[keysOk_yes h,HAH'.out,HAC];simp[nh,nc]
     have HG:=Lib.hid (HG0.out.trans hg)
     clear hke hk hg HAC HALL HAH' HGA
     go_wp2_with fail
     refine(spec_Keys_c x _ _ _ _ _ _ _ (H1.out.grow' repHtlc_stable HG.out.below) (H2.out.grow' repCircle_stable HG.out.below) nh nc).mono ?_
     rintro e V ⟨av,cv,rfl,gv,hsl⟩
     have HGV:=Lib.hid (HG.out.trans gv)
     have HSL:=Lib.hid hsl
     have hc1:(keysOf x).length≤cv:=by
      obtain⟨_,_,hq,hc1,_,_⟩:=hsl
      injection hq with _ _ q3
      omega
     clear hsl
     have hlen:=HLEN.out
     clear k0 k1 k2 k3 k4 k5 gv HG HG0 HB HLEN
     generalize keysOf x=K at *
     go_wp2
     go_loopg [91] K.length (fun g i wq=>∃k:Nat,k+g=K.length∧i=.int .i64 k∧(∀j,j<k→keyAt K j=true)∧wq=V)
     case atStart=>exact⟨0,by simp,rfl,fun j h=>absurd h (by omega),rfl⟩
     case round=>
      obtain⟨k,hk,rfl,hall,rfl⟩:=hrel
      have HALL:=Lib.hid hall;clear hall
      by_cases hlt:k<K.length
      ·obtain⟨b,off,rfl,hb1,hb2,hel⟩:=HSL.out.elems k hlt
       obtain⟨e0,_⟩:=Int.atCell hel k hlt
       have HKA:Hid (keyAt K k=(keyOk K[k]&&!hasI (K.take k) K[k])):=by
        show _=_
        unfold keyAt
        rw[List.getD_eq_getElem?_getD,List.getElem?_eq_getElem hlt];rfl
       have HK:=Lib.hid hk
       clear hk hel
       generalize K[k]=y at *
       have hkc:(k:Int)≤(cv:Int):=by omega
       by_cases u1:1≤y<;>by_cases u2:y≤1000000<;>cases q2:hasI (K.take k) y
       all_goals
        have HQ:Hid (keyOk y=(decide (1≤y)&&decide (y≤1000000))):=rfl
        have U1:=Lib.hid u1;have U2:=Lib.hid u2;have Q2:=Lib.hid q2
        go_wp2_with (first
         |(go_at_call 109;refine(hasTake2_c K _ cv k y _ _ _ HSL.out (by omega) (by omega)).mono ?_;rintro e w' ⟨rfl,rfl⟩))
        first
         |(go_ret
           exact⟨by rw[HNO.out k hlt (by rw[HKA.out,HQ.out,Q2.out];have:=U1.out;have:=U2.out;simp;try omega)];rfl,HGV.out⟩)
         |(go_roundg (K.length-(k+1))
           case measure=>have:=HK.out;omega
           case rel=>exact⟨k+1,by have:=HK.out;omega,by go_num,fun j hj=>by
            by_cases e:j=k
            ·subst e;rw[HKA.out,HQ.out,Q2.out];have:=U1.out;have:=U2.out;simp;omega
            ·exact HALL.out j (by omega),rfl⟩)
      ·have hr:partsOk x=true:=HYES.out (fun j hj=>HALL.out j (by omega))
       have HR:=Lib.hid hr;clear hr
       go_wp2
       go_ret
       exact⟨by rw[HR.out];rfl,HGV.out⟩
end Go.Proofs.YtogkbcmfoalpiaaGreat
