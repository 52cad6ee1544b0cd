/- A book: two channels that are there; keys that are new. -/
import Derived.Test.YtogkbcmfoalpiaaGreatKBook0
namespace Go.Proofs.YtogkbcmfoalpiaaGreat
open Go.RowKit
set_option maxHeartbeats 16000000
set_option maxRecDepth 100000
set_option linter.unusedSimpArgs false
set_option linter.unusedVariables false
theorem spec_At_c(x:Book)(a0:Option Addr)(c0:Nat)(a1:Option Addr)(c1:Nat)(a2:Option Addr)(c2:Nat)(ch:Int)(w:World)(h0:SlR 7 repChan w 0 w.heap.size (.slice a0 x.chans.length c0) x.chans)(hn:x.chans.length≤1048576) :
 Calls Tryz.prog 55 #[.agg #[.int .i64 x.tick,.int .i64 x.next,.int .i64 x.wallet,.slice a0 x.chans.length c0,.slice a1 x.htlcs.length c1,.slice a2 x.circles.length c2],.int .i64 ch] w fun e w'=>e=.returned (.int .i64 (chanAt x.chans ch))∧Grow w w':=by
 have HS:=Lib.hid h0;clear h0
 go_enter Tryz.func55,Tryz.ntmps55
 go_wp2
 have hg0:Grow w (w.alloc (.cells #[.int .i64 x.tick,.int .i64 x.next,.int .i64 x.wallet,.slice a0 x.chans.length c0,.slice a1 x.htlcs.length c1,.slice a2 x.circles.length c2] 27)):=(Grow.refl _).alloc _ _
 have k3:(w.alloc (.cells #[.int .i64 x.tick,.int .i64 x.next,.int .i64 x.wallet,.slice a0 x.chans.length c0,.slice a1 x.htlcs.length c1,.slice a2 x.circles.length c2] 27)).cell? ⟨w.heap.size,3,none⟩=some (.slice a0 x.chans.length c0):=cell_new 3 rfl
 obtain⟨W,hW⟩:∃W,W=w.alloc (.cells #[.int .i64 x.tick,.int .i64 x.next,.int .i64 x.wallet,.slice a0 x.chans.length c0,.slice a1 x.htlcs.length c1,.slice a2 x.circles.length c2] 27):=⟨_,rfl⟩
 rw[←hW]at hg0 k3 ⊢
 clear hW
 go_loopg [9] x.chans.length (fun g i wr=>∃k:Nat,k+g=x.chans.length∧i=.int .i64 k∧(∀j (h:j<x.chans.length),j<k→x.chans[j].id≠ch)∧wr=W)
 case atStart=>exact⟨0,by simp,rfl,fun j _ h=>absurd h (by omega),rfl⟩
 case round=>
  obtain⟨k,hk,rfl,hall,rfl⟩:=hrel
  have HALL:=Lib.hid hall;clear hall
  by_cases hlt:k<x.chans.length
  ·obtain⟨b,off,rfl,hb1,hb2,hel⟩:=HS.out.elems k hlt
   obtain⟨e0,e1,e2,e3,e4,e5,e6,_⟩:=Chan.atCell (hel.same repChan_stable (hg0.same (Nat.le_refl _)) hb1 hb2) k hlt
   have HK:=Lib.hid hk
   have HE:Hid (x.chans[k].id=ch→chanAt x.chans ch=(k:Int)):=fun h=>chanAt_at hlt (fun j h1 h2=>HALL.out j h1 h2) h
   have HT:Hid (x.chans[k].id≠ch→∀j (h:j<x.chans.length),j<k+1→x.chans[j].id≠ch):=fun h j h1 h2=>by
    by_cases e:j=k
    ·subst e;exact h
    ·exact HALL.out j h1 (by omega)
   have HG:=Lib.hid hg0
   clear hk hel hg0 e1 e2 e3 e4 e5 e6
   generalize x.chans[k]=e at *
   by_cases t:e.id=ch
   ·have HTT:=Lib.hid t
    go_wp2
    go_ret
    exact⟨by rw[HE.out HTT.out];rfl,HG.out⟩
   ·have HTT:=Lib.hid t
    go_wp2
    go_roundg (x.chans.length-(k+1))
    case measure=>have:=HK.out;omega
    case rel=>exact⟨k+1,by have:=HK.out;omega,by go_num,HT.out HTT.out,rfl⟩
  ·have hr:chanAt x.chans ch=-1:=chanAt_no (fun j h=>HALL.out j h (by omega))
   have HR:=Lib.hid hr;have HG:=Lib.hid hg0;clear hr hg0
   go_wp2
   go_ret
   exact⟨by rw[HR.out];rfl,HG.out⟩
def two(l:List Chan)(a b:Int):Bool:=!(a==b)&&decide (0≤chanAt l a)&&decide (0≤chanAt l b)
theorem spec_Two_c(x:Book)(a0:Option Addr)(c0:Nat)(a1:Option Addr)(c1:Nat)(a2:Option Addr)(c2:Nat)(a b:Int)(w:World)(h0:SlR 7 repChan w 0 w.heap.size (.slice a0 x.chans.length c0) x.chans)(hn:x.chans.length≤1048576) :
 Calls Tryz.prog 111 #[.agg #[.int .i64 x.tick,.int .i64 x.next,.int .i64 x.wallet,.slice a0 x.chans.length c0,.slice a1 x.htlcs.length c1,.slice a2 x.circles.length c2],.int .i64 a,.int .i64 b] w fun e w'=>e=.returned (.bool (two x.chans a b))∧Grow w w':=by
 have hg0:Grow w (w.alloc (.cells #[.int .i64 x.tick,.int .i64 x.next,.int .i64 x.wallet,.slice a0 x.chans.length c0,.slice a1 x.htlcs.length c1,.slice a2 x.circles.length c2] 27)):=(Grow.refl _).alloc _ _
 by_cases t:a=b
 ·have hr:two x.chans a b=false:=by simp[two,t]
  have HR:=Lib.hid hr;clear hr
  have HG:=Lib.hid hg0;clear hg0
  go_enter Tryz.func111,Tryz.ntmps111
  go_wp2_with fail
  all_goals
   go_ret
   exact⟨by rw[HR.out];rfl,HG.out⟩
 ·have hr:two x.chans a b=(decide (0≤chanAt x.chans a)&&decide (0≤chanAt x.chans b)):=by
   have tb:(a==b)=false:=by simpa using t
   unfold two;rw[tb];rfl
  have HR:=Lib.hid hr;clear hr
  have HG:=Lib.hid hg0
  have h0':SlR 7 repChan (w.alloc (.cells #[.int .i64 x.tick,.int .i64 x.next,.int .i64 x.wallet,.slice a0 x.chans.length c0,.slice a1 x.htlcs.length c1,.slice a2 x.circles.length c2] 27)) 0 (w.alloc (.cells #[.int .i64 x.tick,.int .i64 x.next,.int .i64 x.wallet,.slice a0 x.chans.length c0,.slice a1 x.htlcs.length c1,.slice a2 x.circles.length c2] 27)).heap.size (.slice a0 x.chans.length c0) x.chans:=h0.grow' repChan_stable hg0.below
  have H0:=Lib.hid h0;have H0':=Lib.hid h0';clear h0 h0' hg0
  go_enter Tryz.func111,Tryz.ntmps111
  go_wp2_with fail
  refine(spec_At_c x a0 c0 a1 c1 a2 c2 a _ H0'.out hn).mono ?_
  rintro e w1 ⟨rfl,g1⟩
  have G1:=HG.out.trans g1
  obtain⟨k0,k1,k2,k3,k4,k5⟩:w1.cell? ⟨w.heap.size,0,none⟩=some (.int .i64 x.tick)∧w1.cell? ⟨w.heap.size,1,none⟩=some (.int .i64 x.next)∧w1.cell? ⟨w.heap.size,2,none⟩=some (.int .i64 x.wallet)∧w1.cell? ⟨w.heap.size,3,none⟩=some (.slice a0 x.chans.length c0)∧w1.cell? ⟨w.heap.size,4,none⟩=some (.slice a1 x.htlcs.length c1)∧w1.cell? ⟨w.heap.size,5,none⟩=some (.slice a2 x.circles.length c2):=
   ⟨cellGrow g1 (cell_new 0 rfl),cellGrow g1 (cell_new 1 rfl),cellGrow g1 (cell_new 2 rfl),cellGrow g1 (cell_new 3 rfl),cellGrow g1 (cell_new 4 rfl),cellGrow g1 (cell_new 5 rfl)⟩
  have h1':SlR 7 repChan w1 0 w1.heap.size (.slice a0 x.chans.length c0) x.chans:=H0.out.grow' repChan_stable G1.below
  have H1:=Lib.hid h1';have HG1:=Lib.hid G1;clear h1' G1 g1
  by_cases t1:0≤chanAt x.chans a
  ·have T1:=Lib.hid t1
   generalize chanAt x.chans a=p at *
   go_wp2_with fail
   refine(spec_At_c x a0 c0 a1 c1 a2 c2 b _ H1.out hn).mono ?_
   rintro e w2 ⟨rfl,g2⟩
   have HG2:=Lib.hid g2;clear g2
   generalize chanAt x.chans b=q at *
   go_wp2_with fail
   all_goals
    go_ret
    exact⟨by rw[HR.out];simp[T1.out,t],HG1.out.trans HG2.out⟩
  ·have T1:=Lib.hid t1
   generalize chanAt x.chans a=p at *
   go_wp2_with fail
   all_goals
    go_ret
    exact⟨by rw[HR.out,show decide (0≤p)=false by simpa using T1.out];rfl,HG1.out⟩
def hasI(l:List Int)(n:Int):Bool:=l.any (fun x=>x==n)
theorem hasI_yes{l:List Int}{n:Int}{k:Nat}(hk:k<l.length)(h:l[k]=n):hasI l n=true:=by
 unfold hasI;rw[List.any_eq_true];exact⟨l[k],List.getElem_mem hk,by simpa using h⟩
theorem hasI_no{l:List Int}{n:Int}(h:∀j (h:j<l.length),l[j]≠n):hasI l n=false:=by
 unfold hasI;rw[List.any_eq_false]
 intro x hx
 obtain⟨j,hj,rfl⟩:=List.getElem_of_mem hx
 simpa using h j hj
theorem impl_hasInt_c(xs:List Int)(a:Option Addr)(c:Nat)(n:Int)(lo hi:Nat)(w:World)(h0:SlR 1 repInt w lo hi (.slice a xs.length c) xs)(hn:xs.length≤1048576) :
 Calls Tryz.prog 119 #[.slice a xs.length c,.int .i64 n] w fun e w'=>e=.returned (.bool (hasI xs n))∧w=w':=by
 have HS:=Lib.hid h0;clear h0
 go_enter Tryz.func119,Tryz.ntmps119
 go_wp2
 go_loopg [9] xs.length (fun g i wr=>∃k:Nat,k+g=xs.length∧i=.int .i64 k∧(∀j (h:j<xs.length),j<k→xs[j]≠n)∧wr=w)
 case atStart=>exact⟨0,by simp,rfl,fun j _ h=>absurd h (by omega),rfl⟩
 case round=>
  obtain⟨k,hk,rfl,hall,rfl⟩:=hrel
  have HALL:=Lib.hid hall;clear hall
  by_cases hlt:k<xs.length
  ·obtain⟨b,off,rfl,hb1,hb2,hel⟩:=HS.out.elems k hlt
   obtain⟨e0,_⟩:=Int.atCell hel k hlt
   have HK:=Lib.hid hk
   have HE:Hid (xs[k]=n→hasI xs n=true):=fun h=>hasI_yes hlt h
   have HT:Hid (xs[k]≠n→∀j (h:j<xs.length),j<k+1→xs[j]≠n):=fun h j h1 h2=>by
    by_cases e:j=k
    ·subst e;exact h
    ·exact HALL.out j h1 (by omega)
   clear hk hel
   generalize xs[k]=e at *
   by_cases t:e=n
   ·have HTT:=Lib.hid t
    go_wp2
    go_ret
    exact⟨by rw[HE.out HTT.out];rfl,rfl⟩
   ·have HTT:=Lib.hid t
    go_wp2
    go_roundg (xs.length-(k+1))
    case measure=>have:=HK.out;omega
    case rel=>exact⟨k+1,by have:=HK.out;omega,by go_num,HT.out HTT.out,rfl⟩
  ·have hr:hasI xs n=false:=hasI_no (fun j h=>HALL.out j h (by omega))
   have HR:=Lib.hid hr;clear hr
   go_wp2
   go_ret
   exact⟨by rw[HR.out];rfl,rfl⟩
theorem spec_HasInt_c(xs:List Int)(a:Option Addr)(c:Nat)(n:Int)(lo hi:Nat)(w:World)(h0:SlR 1 repInt w lo hi (.slice a xs.length c) xs)(hn:xs.length≤1048576) :
 Calls Tryz.prog 109 #[.slice a xs.length c,.int .i64 n] w fun e w'=>e=.returned (.bool (hasI xs n))∧w=w':=by
 have HS:=Lib.hid h0;clear h0
 go_enter Tryz.func109,Tryz.ntmps109
 go_wp2
 go_loopg [9] xs.length (fun g i wr=>∃k:Nat,k+g=xs.length∧i=.int .i64 k∧(∀j (h:j<xs.length),j<k→xs[j]≠n)∧wr=w)
 case atStart=>exact⟨0,by simp,rfl,fun j _ h=>absurd h (by omega),rfl⟩
 case round=>
  obtain⟨k,hk,rfl,hall,rfl⟩:=hrel
  have HALL:=Lib.hid hall;clear hall
  by_cases hlt:k<xs.length
  ·obtain⟨b,off,rfl,hb1,hb2,hel⟩:=HS.out.elems k hlt
   obtain⟨e0,_⟩:=Int.atCell hel k hlt
   have HK:=Lib.hid hk
   have HE:Hid (xs[k]=n→hasI xs n=true):=fun h=>hasI_yes hlt h
   have HT:Hid (xs[k]≠n→∀j (h:j<xs.length),j<k+1→xs[j]≠n):=fun h j h1 h2=>by
    by_cases e:j=k
    ·subst e;exact h
    ·exact HALL.out j h1 (by omega)
   clear hk hel
   generalize xs[k]=e at *
   by_cases t:e=n
   ·have HTT:=Lib.hid t
    go_wp2
    go_ret
    exact⟨by rw[HE.out HTT.out];rfl,rfl⟩
   ·have HTT:=Lib.hid t
    go_wp2
    go_roundg (xs.length-(k+1))
    case measure=>have:=HK.out;omega
    case rel=>exact⟨k+1,by have:=HK.out;omega,by go_num,HT.out HTT.out,rfl⟩
  ·have hr:hasI xs n=false:=hasI_no (fun j h=>HALL.out j h (by omega))
   have HR:=Lib.hid hr;clear hr
   go_wp2
   go_ret
   exact⟨by rw[HR.out];rfl,rfl⟩
end Go.Proofs.YtogkbcmfoalpiaaGreat
