/- A book: the keys, of the reference. -/
import Derived.Test.YtogkbcmfoalpiaaGreatKBook4
namespace Go.Proofs.YtogkbcmfoalpiaaGreat
open Go.RowKit
set_option maxHeartbeats 16000000
set_option maxRecDepth 100000
set_option linter.unusedSimpArgs false
set_option linter.unusedVariables false
theorem one_at(w:World)(c:Array Value)(T:TypeId)(y:Int):∀j u,[Value.int .i64 y][j]? = some u→((w.alloc (.cells c T)).alloc (.cells #[.int .i64 y] 3)).cell? ((⟨w.heap.size+1,0,none⟩:Addr).add j)=some u:=by
 have:=cell_one_new (w.alloc (.cells c T)) (.int .i64 y) 3
 rw[show (w.alloc (.cells c T)).heap.size=w.heap.size+1 by simp]at this
 exact this
theorem spec_Keys_c(x:Book)(a0:Option Addr)(c0:Nat)(a1:Option Addr)(c1:Nat)(a2:Option Addr)(c2:Nat)(w:World)(h1:SlR 7 repHtlc w 0 w.heap.size (.slice a1 x.htlcs.length c1) x.htlcs)(h2:SlR 5 repCircle w 0 w.heap.size (.slice a2 x.circles.length c2) x.circles)(nh:x.htlcs.length≤60)(nc:x.circles.length≤20) :
 Calls Tryz.prog 110 #[.agg #[.int .i64 x.tick,.int .i64 x.next,.int .i64 x.wallet,.slice a0 x.chans.length c0,.slice a1 x.htlcs.length c1,.slice a2 x.circles.length c2]] w fun e w'=>∃a c,e=.returned (.slice a (keysOf x).length c)∧Grow w w'∧SlR 1 repInt w' w.heap.size w'.heap.size (.slice a (keysOf x).length c) (keysOf x):=by
 obtain⟨i0,hi0,hz0,hz1,hz2⟩:=info_parts infoInt
 have hki:=keys_i64 h1 h2
 have HKI:=Lib.hid hki;clear hki
 have H1:=Lib.hid h1;have H2:=Lib.hid h2
 clear h1 h2
 have hg0:Grow w (w.alloc (.cells #[.int .i64 x.tick,.int .i64 x.next,.int .i64 x.wallet,.slice a0 x.chans.length c0,.slice a1 x.htlcs.length c1,.slice a2 x.circles.length c2] 27)):=(Grow.refl _).alloc _ _
 have hb:BookAt (w.alloc (.cells #[.int .i64 x.tick,.int .i64 x.next,.int .i64 x.wallet,.slice a0 x.chans.length c0,.slice a1 x.htlcs.length c1,.slice a2 x.circles.length c2] 27)) w.heap.size x a0 c0 a1 c1 a2 c2:=BookAt.new x a0 c0 a1 c1 a2 c2 w
 have HB:=Lib.hid hb;have HG0:=Lib.hid hg0
 clear hb hg0
 go_enter Tryz.func110,Tryz.ntmps110
 go_wp2
 have hsz:(w.alloc (.cells #[.int .i64 x.tick,.int .i64 x.next,.int .i64 x.wallet,.slice a0 x.chans.length c0,.slice a1 x.htlcs.length c1,.slice a2 x.circles.length c2] 27)).heap.size=w.heap.size+1:=by simp
 obtain⟨W,hW⟩:∃W,W=w.alloc (.cells #[.int .i64 x.tick,.int .i64 x.next,.int .i64 x.wallet,.slice a0 x.chans.length c0,.slice a1 x.htlcs.length c1,.slice a2 x.circles.length c2] 27):=⟨_,rfl⟩
 rw[←hW]at HB HG0 hsz ⊢
 clear hW
 have hmade:=World.ownsRow_made (base:=W.heap.size) (e:=3) (size:=1) W #[] 0 (Nat.le_refl _) (by simp[maxLen]) (by simp)
 rw[hsz]at hmade
 rw[←hsz]at hmade
 have HMADE:=Lib.hid hmade;clear hmade
 rw[←hsz]
 clear hsz
 go_loopg [3,12] x.htlcs.length (fun g v i wr=>∃k:Nat,k+g=x.htlcs.length∧i=.int .i64 k∧Grow W wr∧wr.ownsRow W.heap.size 3 1 v ((x.htlcs.take k).map (·.key)).length (((x.htlcs.take k).map (·.key)).flatMap encInt))
 case atStart=>exact⟨0,by simp,rfl,(Grow.refl _).alloc _ _,HMADE.out⟩
 case round=>
  obtain⟨k,hk,rfl,hg,hown⟩:=hrel
  have HOWN:=Lib.hid hown;clear hown
  by_cases hlt:k<x.htlcs.length
  ·obtain⟨b,off,rfl,hb1,hb2,hel⟩:=H1.out.elems k hlt
   obtain⟨e0,e1,e2,e3,e4,e5,e6,_⟩:=Htlc.atCell (hel.same repHtlc_stable ((HG0.out.trans hg).same (Nat.le_refl _)) hb1 hb2) k hlt
   have HM:Hid ((x.htlcs.take (k+1)).map (·.key)=((x.htlcs.take k).map (·.key))++[x.htlcs[k].key]):=by
    show _=_
    rw[List.take_succ_eq_append_getElem hlt,List.map_append];rfl
   have HL:Hid (((x.htlcs.take k).map (·.key)).length≤60):=by
    show _≤_
    rw[List.length_map,List.length_take];omega
   have HG:=Lib.hid hg;have HK:=Lib.hid hk
   have hz0':b<wr.heap.size:=by have:=(HG0.out.trans hg).size;omega
   clear hg hk hel
   generalize x.htlcs[k]=e at *
   generalize hks:(x.htlcs.take k).map (·.key)=ks at *
   have HKS:=Lib.hid hks;clear hks
   go_wp2_with (at_builtin
                refine wpList_append_g rfl (.tmp 16) (.tmp 19) 50 rfl W ((HG.out.alloc _ _).alloc _ _) 3 i0 _ 1 8 Tryz.underlying50 hi0 hz0 hz1 hz2 rfl (by omega) u3 ks.length (ks.flatMap encInt) rfl (own_grow HOWN.out (((Grow.refl _).alloc _ _).alloc _ _)) ⟨wr.heap.size+1,0,none⟩ 1 1 [.int .i64 e.key] rfl rfl (one_at wr _ _ e.key) (one_int _) (by have:=HL.out;simp only[maxLen];omega) (by have:=HL.out;omega) ?_
                intro v' w' hown' hg' hgb hat
                have HOWN':=Lib.hid (own_snoc hown');have HG':=Lib.hid hg';clear hown' hg' hgb hat)
   go_roundg (x.htlcs.length-(k+1))
   case measure=>have:=HK.out;omega
   case rel=>exact⟨k+1,by have:=HK.out;omega,by go_num,HG'.out,by rw[HM.out];exact HOWN'.out⟩
  ·have hke:k=x.htlcs.length:=by omega
   have hown:=HOWN.out
   rw[hke,List.take_length]at hown
   have hl0:(x.htlcs.map (·.key)).length≤60:=by rw[List.length_map];omega
   have HKO:Hid (keysOf x=x.htlcs.map (·.key)++x.circles.map (·.key)):=rfl
   generalize x.htlcs.map (·.key)=ks0 at *
   obtain⟨k0,k1,k2,k3,k4,k5⟩:=HB.out.grow hg
   have HGA:=Lib.hid hg;have HOWN0:=Lib.hid hown
   clear hke hk hg hown HOWN
   go_wp2
   clear k0 k1 k2 k3 k4 k5
   go_loopg [3,25] x.circles.length (fun g v i wr=>∃k:Nat,k+g=x.circles.length∧i=.int .i64 k∧Grow W wr∧wr.ownsRow W.heap.size 3 1 v (ks0++(x.circles.take k).map (·.key)).length ((ks0++(x.circles.take k).map (·.key)).flatMap encInt))
   case atStart=>exact⟨0,by simp,rfl,HGA.out,by simpa using HOWN0.out⟩
   case round=>
    obtain⟨k,hk,rfl,hg,hown⟩:=hrel
    have HOWN:=Lib.hid hown;clear hown
    by_cases hlt:k<x.circles.length
    ·obtain⟨b,off,rfl,hb1,hb2,hel⟩:=H2.out.elems k hlt
     obtain⟨e0,e1,e2,e3,e4,_⟩:=Circle.atCell (hel.same repCircle_stable ((HG0.out.trans hg).same (Nat.le_refl _)) hb1 hb2) k hlt
     have HM:Hid (ks0++(x.circles.take (k+1)).map (·.key)=(ks0++(x.circles.take k).map (·.key))++[x.circles[k].key]):=by
      show _=_
      rw[List.take_succ_eq_append_getElem hlt,List.map_append,List.append_assoc];rfl
     have HL:Hid ((ks0++(x.circles.take k).map (·.key)).length≤80):=by
      show _≤_
      rw[List.length_append,List.length_map,List.length_take];omega
     have HG:=Lib.hid hg;have HK:=Lib.hid hk
     have hz0':b<wr.heap.size:=by have:=(HG0.out.trans hg).size;omega
     clear hg hk hel
     generalize x.circles[k]=e at *
     generalize hks:ks0++(x.circles.take k).map (·.key)=ks at *
     have HKS:=Lib.hid hks;clear hks
     go_wp2_with (at_builtin
                  refine wpList_append_g rfl (.tmp 29) (.tmp 32) 50 rfl W ((HG.out.alloc _ _).alloc _ _) 3 i0 _ 1 8 Tryz.underlying50 hi0 hz0 hz1 hz2 rfl (by omega) u3 ks.length (ks.flatMap encInt) rfl (own_grow HOWN.out (((Grow.refl _).alloc _ _).alloc _ _)) ⟨wr.heap.size+1,0,none⟩ 1 1 [.int .i64 e.key] rfl rfl (one_at wr _ _ e.key) (one_int _) (by have:=HL.out;simp only[maxLen];omega) (by have:=HL.out;omega) ?_
                  intro v' w' hown' hg' hgb hat
                  have HOWN':=Lib.hid (own_snoc hown');have HG':=Lib.hid hg';clear hown' hg' hgb hat)
     go_roundg (x.circles.length-(k+1))
     case measure=>have:=HK.out;omega
     case rel=>exact⟨k+1,by have:=HK.out;omega,by go_num,HG'.out,by rw[HM.out];exact HOWN'.out⟩
    ·have hke:k=x.circles.length:=by omega
     have hown:=HOWN.out
     rw[hke,List.take_length,←HKO.out]at hown
     have hsl:SlR 1 repInt wr W.heap.size wr.heap.size u3 (keysOf x):=SlR.of_own length_encInt hown (fun y hy=>⟨rfl,HKI.out y hy⟩)
     have hsl:=hsl.stable repInt_stable (Same.refl _ _ _) (lo':=w.heap.size) (by have:=HG0.out.size;omega) (Nat.le_refl _)
     have hsl':=hsl
     obtain⟨av,cv,rfl,_,_,_⟩:=hsl'
     have HSL:=Lib.hid hsl;have HG:=Lib.hid (HG0.out.trans hg)
     clear hke hk hg hown HOWN hsl HKO HKI
     go_wp2
     go_ret
     exact⟨av,cv,rfl,HG.out,HSL.out⟩
end Go.Proofs.YtogkbcmfoalpiaaGreat
