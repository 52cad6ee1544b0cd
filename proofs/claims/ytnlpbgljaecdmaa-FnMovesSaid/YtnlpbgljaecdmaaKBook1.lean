/- Texts joined: Book1, Book2, Book3, Book4, Book5, Book6, Book7, Book8. -/
import Derived.Test.YtnlpbgljaecdmaaKBook0
import Derived.Test.YtnlpbgljaecdmaaKHasI
namespace Go.Proofs.Ytnlpbgljaecdmaa
open Go.RowKit
set_option maxHeartbeats 16000000
set_option maxRecDepth 100000
set_option linter.unusedSimpArgs false
set_option linter.unusedVariables false
theorem spec_At_c(x:Book)(a0:Option Addr)(c0:Nat)(a1:Option Addr)(c1:Nat)(a2:Option Addr)(c2:Nat)(ch:Int)(w:World)(h0:SlR 7 repChan w 0 w.heap.size (.slice a0 x.chans.length c0) x.chans)(hn:x.chans.length≤1048576) :
 Calls Try.prog 29 #[.agg #[.int .i64 x.tick,.int .i64 x.next,.int .i64 x.wallet,.slice a0 x.chans.length c0,.slice a1 x.htlcs.length c1,.slice a2 x.circles.length c2],.int .i64 ch] w fun e w'=>e=.returned (.int .i64 (chanAt x.chans ch))∧Grow w w':=by
 have HS:=Lib.hid h0;clear h0
 go_enter Try.func29,Try.ntmps29
 go_wp2
 have hg0:Grow w (w.alloc (.cells #[.int .i64 x.tick,.int .i64 x.next,.int .i64 x.wallet,.slice a0 x.chans.length c0,.slice a1 x.htlcs.length c1,.slice a2 x.circles.length c2] 27)):=(Grow.refl _).alloc _ _
 have k3:(w.alloc (.cells #[.int .i64 x.tick,.int .i64 x.next,.int .i64 x.wallet,.slice a0 x.chans.length c0,.slice a1 x.htlcs.length c1,.slice a2 x.circles.length c2] 27)).cell? ⟨w.heap.size,3,none⟩=some (.slice a0 x.chans.length c0):=cell_new 3 rfl
 obtain⟨W,hW⟩:∃W,W=w.alloc (.cells #[.int .i64 x.tick,.int .i64 x.next,.int .i64 x.wallet,.slice a0 x.chans.length c0,.slice a1 x.htlcs.length c1,.slice a2 x.circles.length c2] 27):=⟨_,rfl⟩
 rw[←hW]at hg0 k3 ⊢
 clear hW
 go_loopg [9] x.chans.length (fun g i wr=>∃k:Nat,k+g=x.chans.length∧i=.int .i64 k∧(∀j (h:j<x.chans.length),j<k→x.chans[j].id≠ch)∧wr=W)
 case atStart=>exact⟨0,by simp,rfl,fun j _ h=>absurd h (by omega),rfl⟩
 case round=>
  obtain⟨k,hk,rfl,hall,rfl⟩:=hrel
  have HALL:=Lib.hid hall;clear hall
  by_cases hlt:k<x.chans.length
  ·obtain⟨b,off,rfl,hb1,hb2,hel⟩:=HS.out.elems k hlt
   obtain⟨e0,e1,e2,e3,e4,e5,e6,_⟩:=Chan.atCell (hel.same repChan_stable (hg0.same (Nat.le_refl _)) hb1 hb2) k hlt
   have HK:=Lib.hid hk
   have HE:Hid (x.chans[k].id=ch→chanAt x.chans ch=(k:Int)):=fun h=>chanAt_at hlt (fun j h1 h2=>HALL.out j h1 h2) h
   have HT:Hid (x.chans[k].id≠ch→∀j (h:j<x.chans.length),j<k+1→x.chans[j].id≠ch):=fun h j h1 h2=>by
    by_cases e:j=k
    ·subst e;exact h
    ·exact HALL.out j h1 (by omega)
   have HG:=Lib.hid hg0
   clear hk hel hg0 e1 e2 e3 e4 e5 e6
   generalize x.chans[k]=e at *
   by_cases t:e.id=ch
   ·have HTT:=Lib.hid t
    go_wp2
    go_ret
    exact⟨by rw[HE.out HTT.out];rfl,HG.out⟩
   ·have HTT:=Lib.hid t
    go_wp2
    go_roundg (x.chans.length-(k+1))
    case measure=>have:=HK.out;omega
    case rel=>exact⟨k+1,by have:=HK.out;omega,by go_num,HT.out HTT.out,rfl⟩
  ·have hr:chanAt x.chans ch=-1:=chanAt_no (fun j h=>HALL.out j h (by omega))
   have HR:=Lib.hid hr;have HG:=Lib.hid hg0;clear hr hg0
   go_wp2
   go_ret
   exact⟨by rw[HR.out];rfl,HG.out⟩
def two(l:List Chan)(a b:Int):Bool:=!(a==b)&&decide (0≤chanAt l a)&&decide (0≤chanAt l b)
theorem spec_Two_c(x:Book)(a0:Option Addr)(c0:Nat)(a1:Option Addr)(c1:Nat)(a2:Option Addr)(c2:Nat)(a b:Int)(w:World)(h0:SlR 7 repChan w 0 w.heap.size (.slice a0 x.chans.length c0) x.chans)(hn:x.chans.length≤1048576) :
 Calls Try.prog 45 #[.agg #[.int .i64 x.tick,.int .i64 x.next,.int .i64 x.wallet,.slice a0 x.chans.length c0,.slice a1 x.htlcs.length c1,.slice a2 x.circles.length c2],.int .i64 a,.int .i64 b] w fun e w'=>e=.returned (.bool (two x.chans a b))∧Grow w w':=by
 have hg0:Grow w (w.alloc (.cells #[.int .i64 x.tick,.int .i64 x.next,.int .i64 x.wallet,.slice a0 x.chans.length c0,.slice a1 x.htlcs.length c1,.slice a2 x.circles.length c2] 27)):=(Grow.refl _).alloc _ _
 by_cases t:a=b
 ·have hr:two x.chans a b=false:=by simp[two,t]
  have HR:=Lib.hid hr;clear hr
  have HG:=Lib.hid hg0;clear hg0
  go_enter Try.func45,Try.ntmps45
  go_wp2_with fail
  all_goals
   go_ret
   exact⟨by rw[HR.out];rfl,HG.out⟩
 ·have hr:two x.chans a b=(decide (0≤chanAt x.chans a)&&decide (0≤chanAt x.chans b)):=by
   have tb:(a==b)=false:=by simpa using t
   unfold two;rw[tb];rfl
  have HR:=Lib.hid hr;clear hr
  have HG:=Lib.hid hg0
  have h0':SlR 7 repChan (w.alloc (.cells #[.int .i64 x.tick,.int .i64 x.next,.int .i64 x.wallet,.slice a0 x.chans.length c0,.slice a1 x.htlcs.length c1,.slice a2 x.circles.length c2] 27)) 0 (w.alloc (.cells #[.int .i64 x.tick,.int .i64 x.next,.int .i64 x.wallet,.slice a0 x.chans.length c0,.slice a1 x.htlcs.length c1,.slice a2 x.circles.length c2] 27)).heap.size (.slice a0 x.chans.length c0) x.chans:=h0.grow' repChan_stable hg0.below
  have H0:=Lib.hid h0;have H0':=Lib.hid h0';clear h0 h0' hg0
  go_enter Try.func45,Try.ntmps45
  go_wp2_with fail
  refine(spec_At_c x a0 c0 a1 c1 a2 c2 a _ H0'.out hn).mono ?_
  rintro e w1 ⟨rfl,g1⟩
  have G1:=HG.out.trans g1
  obtain⟨k0,k1,k2,k3,k4,k5⟩:w1.cell? ⟨w.heap.size,0,none⟩=some (.int .i64 x.tick)∧w1.cell? ⟨w.heap.size,1,none⟩=some (.int .i64 x.next)∧w1.cell? ⟨w.heap.size,2,none⟩=some (.int .i64 x.wallet)∧w1.cell? ⟨w.heap.size,3,none⟩=some (.slice a0 x.chans.length c0)∧w1.cell? ⟨w.heap.size,4,none⟩=some (.slice a1 x.htlcs.length c1)∧w1.cell? ⟨w.heap.size,5,none⟩=some (.slice a2 x.circles.length c2):=
   ⟨cellGrow g1 (cell_new 0 rfl),cellGrow g1 (cell_new 1 rfl),cellGrow g1 (cell_new 2 rfl),cellGrow g1 (cell_new 3 rfl),cellGrow g1 (cell_new 4 rfl),cellGrow g1 (cell_new 5 rfl)⟩
  have h1':SlR 7 repChan w1 0 w1.heap.size (.slice a0 x.chans.length c0) x.chans:=H0.out.grow' repChan_stable G1.below
  have H1:=Lib.hid h1';have HG1:=Lib.hid G1;clear h1' G1 g1
  by_cases t1:0≤chanAt x.chans a
  ·have T1:=Lib.hid t1
   generalize chanAt x.chans a=p at *
   go_wp2_with fail
   refine(spec_At_c x a0 c0 a1 c1 a2 c2 b _ H1.out hn).mono ?_
   rintro e w2 ⟨rfl,g2⟩
   have HG2:=Lib.hid g2;clear g2
   generalize chanAt x.chans b=q at *
   go_wp2_with fail
   all_goals
    go_ret
    exact⟨by rw[HR.out];simp[T1.out,t],HG1.out.trans HG2.out⟩
  ·have T1:=Lib.hid t1
   generalize chanAt x.chans a=p at *
   go_wp2_with fail
   all_goals
    go_ret
    exact⟨by rw[HR.out,show decide (0≤p)=false by simpa using T1.out];rfl,HG1.out⟩
theorem spec_HasInt_c(xs:List Int)(a:Option Addr)(c:Nat)(n:Int)(lo hi:Nat)(w:World)(h0:SlR 1 repInt w lo hi (.slice a xs.length c) xs)(hn:xs.length≤1048576) :
 Calls Try.prog 73 #[.slice a xs.length c,.int .i64 n] w fun e w'=>e=.returned (.bool (hasI xs n))∧w=w':=by
 have HS:=Lib.hid h0;clear h0
 go_enter Try.func73,Try.ntmps73
 go_wp2
 go_loopg [9] xs.length (fun g i wr=>∃k:Nat,k+g=xs.length∧i=.int .i64 k∧(∀j (h:j<xs.length),j<k→xs[j]≠n)∧wr=w)
 case atStart=>exact⟨0,by simp,rfl,fun j _ h=>absurd h (by omega),rfl⟩
 case round=>
  obtain⟨k,hk,rfl,hall,rfl⟩:=hrel
  have HALL:=Lib.hid hall;clear hall
  by_cases hlt:k<xs.length
  ·obtain⟨b,off,rfl,hb1,hb2,hel⟩:=HS.out.elems k hlt
   obtain⟨e0,_⟩:=Int.atCell hel k hlt
   have HK:=Lib.hid hk
   have HE:Hid (xs[k]=n→hasI xs n=true):=fun h=>hasI_yes hlt h
   have HT:Hid (xs[k]≠n→∀j (h:j<xs.length),j<k+1→xs[j]≠n):=fun h j h1 h2=>by
    by_cases e:j=k
    ·subst e;exact h
    ·exact HALL.out j h1 (by omega)
   clear hk hel
   generalize xs[k]=e at *
   by_cases t:e=n
   ·have HTT:=Lib.hid t
    go_wp2
    go_ret
    exact⟨by rw[HE.out HTT.out];rfl,rfl⟩
   ·have HTT:=Lib.hid t
    go_wp2
    go_roundg (xs.length-(k+1))
    case measure=>have:=HK.out;omega
    case rel=>exact⟨k+1,by have:=HK.out;omega,by go_num,HT.out HTT.out,rfl⟩
  ·have hr:hasI xs n=false:=hasI_no (fun j h=>HALL.out j h (by omega))
   have HR:=Lib.hid hr;clear hr
   go_wp2
   go_ret
   exact⟨by rw[HR.out];rfl,rfl⟩
end Go.Proofs.Ytnlpbgljaecdmaa
namespace Go.Proofs.Ytnlpbgljaecdmaa
open Go.RowKit
set_option maxHeartbeats 16000000
set_option maxRecDepth 100000
set_option linter.unusedSimpArgs false
set_option linter.unusedVariables false
structure BookAt(w:World)(p:Nat)(x:Book)(a0:Option Addr)(c0:Nat)(a1:Option Addr)(c1:Nat)(a2:Option Addr)(c2:Nat):Prop where
 k0:w.cell? ⟨p,0,none⟩=some (.int .i64 x.tick)
 k1:w.cell? ⟨p,1,none⟩=some (.int .i64 x.next)
 k2:w.cell? ⟨p,2,none⟩=some (.int .i64 x.wallet)
 k3:w.cell? ⟨p,3,none⟩=some (.slice a0 x.chans.length c0)
 k4:w.cell? ⟨p,4,none⟩=some (.slice a1 x.htlcs.length c1)
 k5:w.cell? ⟨p,5,none⟩=some (.slice a2 x.circles.length c2)
theorem BookAt.new(x:Book)(a0:Option Addr)(c0:Nat)(a1:Option Addr)(c1:Nat)(a2:Option Addr)(c2:Nat)(w:World):BookAt (w.alloc (.cells #[.int .i64 x.tick,.int .i64 x.next,.int .i64 x.wallet,.slice a0 x.chans.length c0,.slice a1 x.htlcs.length c1,.slice a2 x.circles.length c2] 27)) w.heap.size x a0 c0 a1 c1 a2 c2:=
 ⟨cell_new 0 rfl,cell_new 1 rfl,cell_new 2 rfl,cell_new 3 rfl,cell_new 4 rfl,cell_new 5 rfl⟩
theorem BookAt.grow{w w':World}{p:Nat}{x:Book}{a0:Option Addr}{c0:Nat}{a1:Option Addr}{c1:Nat}{a2:Option Addr}{c2:Nat}(h:BookAt w p x a0 c0 a1 c1 a2 c2)(g:Grow w w'):BookAt w' p x a0 c0 a1 c1 a2 c2:=
 ⟨cellGrow g h.k0,cellGrow g h.k1,cellGrow g h.k2,cellGrow g h.k3,cellGrow g h.k4,cellGrow g h.k5⟩
theorem apart_c(x:Book)(a0:Option Addr)(c0:Nat)(a1:Option Addr)(c1:Nat)(a2:Option Addr)(c2:Nat)(a b:Int)(p:Nat)(w:World)(hb:BookAt w p x a0 c0 a1 c1 a2 c2)(h0:SlR 7 repChan w 0 w.heap.size (.slice a0 x.chans.length c0) x.chans)(hn:x.chans.length≤1048576) :
 Calls Try.prog 65 #[.int .i64 a,.int .i64 b,.pointer (some ⟨p,0,none⟩)] w fun e w'=>e=.returned (.bool (two x.chans a b))∧Grow w w':=by
 have HB:=Lib.hid hb
 obtain⟨k0,k1,k2,k3,k4,k5⟩:=hb
 by_cases t:a=b
 ·have hr:two x.chans a b=false:=by simp[two,t]
  have HR:=Lib.hid hr;clear hr
  clear h0
  go_enter Try.func65,Try.ntmps65
  go_wp2_with fail
  all_goals
   go_ret
   exact⟨by rw[HR.out];rfl,Grow.refl _⟩
 ·have hr:two x.chans a b=(decide (0≤chanAt x.chans a)&&decide (0≤chanAt x.chans b)):=by
   have tb:(a==b)=false:=by simpa using t
   unfold two;rw[tb];rfl
  have HR:=Lib.hid hr;clear hr
  have H0:=Lib.hid h0;clear h0
  go_enter Try.func65,Try.ntmps65
  go_wp2_with fail
  refine(impl_chanAt_c x a0 c0 a1 c1 a2 c2 a _ H0.out hn).mono ?_
  rintro e w1 ⟨rfl,g1⟩
  clear k0 k1 k2 k3 k4 k5
  obtain⟨k0,k1,k2,k3,k4,k5⟩:=HB.out.grow g1
  have h1':SlR 7 repChan w1 0 w1.heap.size (.slice a0 x.chans.length c0) x.chans:=H0.out.grow' repChan_stable g1.below
  have H1:=Lib.hid h1';have HG1:=Lib.hid g1;clear h1' g1
  by_cases t1:0≤chanAt x.chans a
  ·have T1:=Lib.hid t1
   generalize chanAt x.chans a=p at *
   go_wp2_with fail
   refine(impl_chanAt_c x a0 c0 a1 c1 a2 c2 b _ H1.out hn).mono ?_
   rintro e w2 ⟨rfl,g2⟩
   have HG2:=Lib.hid g2;clear g2
   generalize chanAt x.chans b=q at *
   go_wp2_with fail
   all_goals
    go_ret
    exact⟨by rw[HR.out];simp[T1.out,t],HG1.out.trans HG2.out⟩
  ·have T1:=Lib.hid t1
   generalize chanAt x.chans a=p at *
   go_wp2_with fail
   all_goals
    go_ret
    exact⟨by rw[HR.out,show decide (0≤p)=false by simpa using T1.out];rfl,HG1.out⟩
def keyOk(n:Int):Bool:=inB n 1 1000000
def chOk(n:Int):Bool:=inB n 1 99
theorem isKey_c(n:Int)(w:World):Calls Try.prog 66 #[.int .i64 n] w fun e w'=>e=.returned (.bool (keyOk n))∧w=w':=by
 go_enter Try.func66,Try.ntmps66
 go_wp2_with fail
 refine(in_c _ _ _ _).mono ?_
 rintro e w' ⟨rfl,rfl⟩
 go_wp2_with fail
 go_ret
 exact⟨rfl,rfl⟩
theorem isChan_c(n:Int)(w:World):Calls Try.prog 52 #[.int .i64 n] w fun e w'=>e=.returned (.bool (chOk n))∧w=w':=by
 go_enter Try.func52,Try.ntmps52
 go_wp2_with fail
 refine(in_c _ _ _ _).mono ?_
 rintro e w' ⟨rfl,rfl⟩
 go_wp2_with fail
 go_ret
 exact⟨rfl,rfl⟩
def tot{α:Type}(f:α→Int)(l:List α):Int:=(l.map f).sum
theorem tot_succ{α:Type}(f:α→Int)(l:List α){k:Nat}(hk:k<l.length):tot f (l.take (k+1))=tot f (l.take k)+f l[k]:=by
 unfold tot
 rw[List.take_succ_eq_append_getElem hk,List.map_append,List.sum_append];simp
theorem tot_le{α:Type}(f:α→Int)(M:Int)(hM:0≤M):∀(l:List α),(∀x∈l,0≤f x∧f x≤M)→0≤tot f l∧tot f l≤l.length*M
 |[],_=>by simp[tot]
 |x::r,h=>by
  have h1:=h x (by simp)
  have h2:=tot_le f M hM r (fun y hy=>h y (by simp[hy]))
  have e:tot f (x::r)=f x+tot f r:=by simp[tot]
  rw[e,List.length_cons]
  have:((r.length+1:Nat):Int)*M=r.length*M+M:=by rw[Int.natCast_add,Int.add_mul];simp
  rw[this]
  omega
theorem tot_take_le{α:Type}(f:α→Int)(M:Int)(hM:0≤M)(l:List α)(h:∀x∈l,0≤f x∧f x≤M)(k:Nat):0≤tot f (l.take k)∧tot f (l.take k)≤l.length*M:=by
 obtain⟨h1,h2⟩:=tot_le f M hM (l.take k) (fun x hx=>h x (List.mem_of_mem_take hx))
 refine⟨h1,Int.le_trans h2 (Int.mul_le_mul_of_nonneg_right ?_ hM)⟩
 have:(l.take k).length≤l.length:=by rw[List.length_take];omega
 omega
def hOut(ch:Int)(h:Htlc):Int:=if h.out=ch then h.amtOut else 0
def hIn(ch:Int)(h:Htlc):Int:=if h.inn=ch then h.amtIn else 0
def cOut(ch:Int)(c:Circle):Int:=if c.frm=ch then c.amt+c.fee else 0
def cIn(ch:Int)(c:Circle):Int:=if c.to=ch then c.amt else 0
def outOf(x:Book)(ch:Int):Int:=tot (hOut ch) x.htlcs+tot (cOut ch) x.circles
def intoOf(x:Book)(ch:Int):Int:=tot (hIn ch) x.htlcs+tot (cIn ch) x.circles
structure Small(x:Book):Prop where
 nh:x.htlcs.length≤60
 nc:x.circles.length≤20
 h:∀h∈x.htlcs,0≤h.amtIn∧h.amtIn≤1125899906842624∧0≤h.amtOut∧h.amtOut≤1125899906842624
 c:∀c∈x.circles,0≤c.amt∧c.amt≤1125899906842624∧0≤c.fee∧c.fee≤1125899906842624
theorem Small.hOut{x:Book}(s:Small x)(ch:Int):∀h∈x.htlcs,0≤hOut ch h∧hOut ch h≤1125899906842624:=fun h hh=>by
 have:=s.h h hh
 unfold Go.Proofs.Ytnlpbgljaecdmaa.hOut;split<;>omega
theorem Small.hIn{x:Book}(s:Small x)(ch:Int):∀h∈x.htlcs,0≤hIn ch h∧hIn ch h≤1125899906842624:=fun h hh=>by
 have:=s.h h hh
 unfold Go.Proofs.Ytnlpbgljaecdmaa.hIn;split<;>omega
theorem Small.cOut{x:Book}(s:Small x)(ch:Int):∀c∈x.circles,0≤cOut ch c∧cOut ch c≤2251799813685248:=fun c hc=>by
 have:=s.c c hc
 unfold Go.Proofs.Ytnlpbgljaecdmaa.cOut;split<;>omega
theorem Small.cIn{x:Book}(s:Small x)(ch:Int):∀c∈x.circles,0≤cIn ch c∧cIn ch c≤2251799813685248:=fun c hc=>by
 have:=s.c c hc
 unfold Go.Proofs.Ytnlpbgljaecdmaa.cIn;split<;>omega
theorem tot_lim{α:Type}{f:α→Int}{M:Int}{l:List α}(N:Nat)(hM:0≤M)(h:∀x∈l,0≤f x∧f x≤M)(hl:l.length≤N)(k:Nat):0≤tot f (l.take k)∧tot f (l.take k)≤N*M:=by
 obtain⟨h1,h2⟩:=tot_take_le f M hM l h k
 exact⟨h1,Int.le_trans h2 (Int.mul_le_mul_of_nonneg_right (by omega) hM)⟩
end Go.Proofs.Ytnlpbgljaecdmaa
namespace Go.Proofs.Ytnlpbgljaecdmaa
open Go.RowKit
set_option maxHeartbeats 16000000
set_option maxRecDepth 100000
set_option linter.unusedSimpArgs false
set_option linter.unusedVariables false
theorem spec_Out_c(x:Book)(a0:Option Addr)(c0:Nat)(a1:Option Addr)(c1:Nat)(a2:Option Addr)(c2:Nat)(ch:Int)(w:World)(h1:SlR 7 repHtlc w 0 w.heap.size (.slice a1 x.htlcs.length c1) x.htlcs)(h2:SlR 5 repCircle w 0 w.heap.size (.slice a2 x.circles.length c2) x.circles)(sm:Small x) :
 Calls Try.prog 62 #[.agg #[.int .i64 x.tick,.int .i64 x.next,.int .i64 x.wallet,.slice a0 x.chans.length c0,.slice a1 x.htlcs.length c1,.slice a2 x.circles.length c2],.int .i64 ch] w fun e w'=>e=.returned (.int .i64 (outOf x ch))∧Grow w w':=by
 have H1:=Lib.hid h1;have H2:=Lib.hid h2;have SM:=Lib.hid sm
 have nh:=sm.nh
 have nc:=sm.nc
 clear h1 h2 sm
 go_enter Try.func62,Try.ntmps62
 go_wp2
 have hg0:Grow w (w.alloc (.cells #[.int .i64 x.tick,.int .i64 x.next,.int .i64 x.wallet,.slice a0 x.chans.length c0,.slice a1 x.htlcs.length c1,.slice a2 x.circles.length c2] 27)):=(Grow.refl _).alloc _ _
 have hb:BookAt (w.alloc (.cells #[.int .i64 x.tick,.int .i64 x.next,.int .i64 x.wallet,.slice a0 x.chans.length c0,.slice a1 x.htlcs.length c1,.slice a2 x.circles.length c2] 27)) w.heap.size x a0 c0 a1 c1 a2 c2:=BookAt.new x a0 c0 a1 c1 a2 c2 w
 obtain⟨W,hW⟩:∃W,W=w.alloc (.cells #[.int .i64 x.tick,.int .i64 x.next,.int .i64 x.wallet,.slice a0 x.chans.length c0,.slice a1 x.htlcs.length c1,.slice a2 x.circles.length c2] 27):=⟨_,rfl⟩
 rw[←hW]at hg0 hb ⊢
 have HB:=Lib.hid hb;have HG0:=Lib.hid hg0
 clear hW hb hg0
 go_loopg [5,13] x.htlcs.length (fun g n i wr=>∃k:Nat,k+g=x.htlcs.length∧i=.int .i64 k∧n=.int .i64 (tot (hOut ch) (x.htlcs.take k))∧Grow W wr)
 case atStart=>exact⟨0,by simp,rfl,rfl,Grow.refl _⟩
 case round=>
  obtain⟨k,hk,rfl,rfl,hg⟩:=hrel
  by_cases hlt:k<x.htlcs.length
  ·obtain⟨b,off,rfl,hb1,hb2,hel⟩:=H1.out.elems k hlt
   obtain⟨e0,e1,e2,e3,e4,e5,e6,_⟩:=Htlc.atCell (hel.same repHtlc_stable ((HG0.out.trans hg).same (Nat.le_refl _)) hb1 hb2) k hlt
   have HT:Hid (tot (hOut ch) (x.htlcs.take (k+1))=tot (hOut ch) (x.htlcs.take k)+hOut ch x.htlcs[k]):=tot_succ _ _ hlt
   obtain⟨s1,s2⟩:=tot_lim 60 (by omega) (SM.out.hOut ch) nh k
   obtain⟨v1,v2⟩:=SM.out.hOut ch x.htlcs[k] (List.getElem_mem hlt)
   have HG:=Lib.hid hg;have HK:=Lib.hid hk
   clear hg hk hel
   generalize x.htlcs[k]=e at *
   generalize tot (hOut ch) (x.htlcs.take k)=s at *
   by_cases t:e.out=ch
   ·have hv:hOut ch e=e.amtOut:=if_pos t
    rw[hv]at v1 v2
    have HV:=Lib.hid hv;clear hv
    go_wp2
    go_roundg (x.htlcs.length-(k+1))
    case measure=>have:=HK.out;omega
    case rel=>exact⟨k+1,by have:=HK.out;omega,by go_num,by rw[HT.out,HV.out];try go_num,HG.out.alloc _ _⟩
   ·have hv:hOut ch e=0:=if_neg t
    have HV:=Lib.hid hv;clear hv v1 v2
    go_wp2
    go_roundg (x.htlcs.length-(k+1))
    case measure=>have:=HK.out;omega
    case rel=>exact⟨k+1,by have:=HK.out;omega,by go_num,by rw[HT.out,HV.out];simp,HG.out.alloc _ _⟩
  ·have hke:k=x.htlcs.length:=by omega
   have hs:tot (hOut ch) (x.htlcs.take k)=tot (hOut ch) x.htlcs:=by rw[hke,List.take_length]
   obtain⟨s1,s2⟩:=tot_lim 60 (by omega) (SM.out.hOut ch) nh k
   rw[hs]at s1 s2 ⊢
   have HP:Hid (outOf x ch=tot (hOut ch) x.htlcs+tot (cOut ch) x.circles):=rfl
   generalize tot (hOut ch) x.htlcs=s at *
   obtain⟨k0,k1,k2,k3,k4,k5⟩:=HB.out.grow hg
   have HGW:=Lib.hid (HG0.out.trans hg)
   clear hke hs hg hk
   go_wp2
   clear k0 k1 k2 k3 k4 k5
   go_loopg [5,29] x.circles.length (fun g n i wr'=>∃k:Nat,k+g=x.circles.length∧i=.int .i64 k∧n=.int .i64 (s+tot (cOut ch) (x.circles.take k))∧Grow w wr')
   case atStart=>exact⟨0,by simp,rfl,by simp[tot],HGW.out⟩
   case round=>
    obtain⟨k,hk,rfl,rfl,hg⟩:=hrel
    by_cases hlt:k<x.circles.length
    ·obtain⟨b,off,rfl,hb1,hb2,hel⟩:=H2.out.elems k hlt
     obtain⟨e0,e1,e2,e3,e4,_⟩:=Circle.atCell (hel.same repCircle_stable (hg.same (Nat.le_refl _)) hb1 hb2) k hlt
     have HT:Hid (tot (cOut ch) (x.circles.take (k+1))=tot (cOut ch) (x.circles.take k)+cOut ch x.circles[k]):=tot_succ _ _ hlt
     obtain⟨s3,s4⟩:=tot_lim 20 (by omega) (SM.out.cOut ch) nc k
     obtain⟨v1,v2,v3,v4⟩:=SM.out.c x.circles[k] (List.getElem_mem hlt)
     have HG:=Lib.hid hg;have HK:=Lib.hid hk
     clear hg hk hel
     generalize x.circles[k]=e at *
     generalize tot (cOut ch) (x.circles.take k)=r at *
     by_cases t:e.frm=ch
     ·have hv:cOut ch e=e.amt+e.fee:=if_pos t
      have HV:=Lib.hid hv;clear hv
      go_wp2
      go_roundg (x.circles.length-(k+1))
      case measure=>have:=HK.out;omega
      case rel=>exact⟨k+1,by have:=HK.out;omega,by go_num,by rw[HT.out,HV.out];try go_num,HG.out.alloc _ _⟩
     ·have hv:cOut ch e=0:=if_neg t
      have HV:=Lib.hid hv;clear hv
      go_wp2
      go_roundg (x.circles.length-(k+1))
      case measure=>have:=HK.out;omega
      case rel=>exact⟨k+1,by have:=HK.out;omega,by go_num,by rw[HT.out,HV.out];simp,HG.out.alloc _ _⟩
    ·have hke:k=x.circles.length:=by omega
     have hs:tot (cOut ch) (x.circles.take k)=tot (cOut ch) x.circles:=by rw[hke,List.take_length]
     rw[hs]
     have HG:=Lib.hid hg;clear hke hs hg hk
     generalize tot (cOut ch) x.circles=r at *
     go_wp2
     go_ret
     exact⟨by rw[HP.out];first|rfl|(congr 1;done)|go_num,HG.out⟩
theorem spec_In_c(x:Book)(a0:Option Addr)(c0:Nat)(a1:Option Addr)(c1:Nat)(a2:Option Addr)(c2:Nat)(ch:Int)(w:World)(h1:SlR 7 repHtlc w 0 w.heap.size (.slice a1 x.htlcs.length c1) x.htlcs)(h2:SlR 5 repCircle w 0 w.heap.size (.slice a2 x.circles.length c2) x.circles)(sm:Small x) :
 Calls Try.prog 63 #[.agg #[.int .i64 x.tick,.int .i64 x.next,.int .i64 x.wallet,.slice a0 x.chans.length c0,.slice a1 x.htlcs.length c1,.slice a2 x.circles.length c2],.int .i64 ch] w fun e w'=>e=.returned (.int .i64 (intoOf x ch))∧Grow w w':=by
 have H1:=Lib.hid h1;have H2:=Lib.hid h2;have SM:=Lib.hid sm
 have nh:=sm.nh
 have nc:=sm.nc
 clear h1 h2 sm
 go_enter Try.func63,Try.ntmps63
 go_wp2
 have hg0:Grow w (w.alloc (.cells #[.int .i64 x.tick,.int .i64 x.next,.int .i64 x.wallet,.slice a0 x.chans.length c0,.slice a1 x.htlcs.length c1,.slice a2 x.circles.length c2] 27)):=(Grow.refl _).alloc _ _
 have hb:BookAt (w.alloc (.cells #[.int .i64 x.tick,.int .i64 x.next,.int .i64 x.wallet,.slice a0 x.chans.length c0,.slice a1 x.htlcs.length c1,.slice a2 x.circles.length c2] 27)) w.heap.size x a0 c0 a1 c1 a2 c2:=BookAt.new x a0 c0 a1 c1 a2 c2 w
 obtain⟨W,hW⟩:∃W,W=w.alloc (.cells #[.int .i64 x.tick,.int .i64 x.next,.int .i64 x.wallet,.slice a0 x.chans.length c0,.slice a1 x.htlcs.length c1,.slice a2 x.circles.length c2] 27):=⟨_,rfl⟩
 rw[←hW]at hg0 hb ⊢
 have HB:=Lib.hid hb;have HG0:=Lib.hid hg0
 clear hW hb hg0
 go_loopg [5,13] x.htlcs.length (fun g n i wr=>∃k:Nat,k+g=x.htlcs.length∧i=.int .i64 k∧n=.int .i64 (tot (hIn ch) (x.htlcs.take k))∧Grow W wr)
 case atStart=>exact⟨0,by simp,rfl,rfl,Grow.refl _⟩
 case round=>
  obtain⟨k,hk,rfl,rfl,hg⟩:=hrel
  by_cases hlt:k<x.htlcs.length
  ·obtain⟨b,off,rfl,hb1,hb2,hel⟩:=H1.out.elems k hlt
   obtain⟨e0,e1,e2,e3,e4,e5,e6,_⟩:=Htlc.atCell (hel.same repHtlc_stable ((HG0.out.trans hg).same (Nat.le_refl _)) hb1 hb2) k hlt
   have HT:Hid (tot (hIn ch) (x.htlcs.take (k+1))=tot (hIn ch) (x.htlcs.take k)+hIn ch x.htlcs[k]):=tot_succ _ _ hlt
   obtain⟨s1,s2⟩:=tot_lim 60 (by omega) (SM.out.hIn ch) nh k
   obtain⟨v1,v2⟩:=SM.out.hIn ch x.htlcs[k] (List.getElem_mem hlt)
   have HG:=Lib.hid hg;have HK:=Lib.hid hk
   clear hg hk hel
   generalize x.htlcs[k]=e at *
   generalize tot (hIn ch) (x.htlcs.take k)=s at *
   by_cases t:e.inn=ch
   ·have hv:hIn ch e=e.amtIn:=if_pos t
    rw[hv]at v1 v2
    have HV:=Lib.hid hv;clear hv
    go_wp2
    go_roundg (x.htlcs.length-(k+1))
    case measure=>have:=HK.out;omega
    case rel=>exact⟨k+1,by have:=HK.out;omega,by go_num,by rw[HT.out,HV.out];try go_num,HG.out.alloc _ _⟩
   ·have hv:hIn ch e=0:=if_neg t
    have HV:=Lib.hid hv;clear hv v1 v2
    go_wp2
    go_roundg (x.htlcs.length-(k+1))
    case measure=>have:=HK.out;omega
    case rel=>exact⟨k+1,by have:=HK.out;omega,by go_num,by rw[HT.out,HV.out];simp,HG.out.alloc _ _⟩
  ·have hke:k=x.htlcs.length:=by omega
   have hs:tot (hIn ch) (x.htlcs.take k)=tot (hIn ch) x.htlcs:=by rw[hke,List.take_length]
   obtain⟨s1,s2⟩:=tot_lim 60 (by omega) (SM.out.hIn ch) nh k
   rw[hs]at s1 s2 ⊢
   have HP:Hid (intoOf x ch=tot (hIn ch) x.htlcs+tot (cIn ch) x.circles):=rfl
   generalize tot (hIn ch) x.htlcs=s at *
   obtain⟨k0,k1,k2,k3,k4,k5⟩:=HB.out.grow hg
   have HGW:=Lib.hid (HG0.out.trans hg)
   clear hke hs hg hk
   go_wp2
   clear k0 k1 k2 k3 k4 k5
   go_loopg [5,29] x.circles.length (fun g n i wr'=>∃k:Nat,k+g=x.circles.length∧i=.int .i64 k∧n=.int .i64 (s+tot (cIn ch) (x.circles.take k))∧Grow w wr')
   case atStart=>exact⟨0,by simp,rfl,by simp[tot],HGW.out⟩
   case round=>
    obtain⟨k,hk,rfl,rfl,hg⟩:=hrel
    by_cases hlt:k<x.circles.length
    ·obtain⟨b,off,rfl,hb1,hb2,hel⟩:=H2.out.elems k hlt
     obtain⟨e0,e1,e2,e3,e4,_⟩:=Circle.atCell (hel.same repCircle_stable (hg.same (Nat.le_refl _)) hb1 hb2) k hlt
     have HT:Hid (tot (cIn ch) (x.circles.take (k+1))=tot (cIn ch) (x.circles.take k)+cIn ch x.circles[k]):=tot_succ _ _ hlt
     obtain⟨s3,s4⟩:=tot_lim 20 (by omega) (SM.out.cIn ch) nc k
     obtain⟨v1,v2,v3,v4⟩:=SM.out.c x.circles[k] (List.getElem_mem hlt)
     have HG:=Lib.hid hg;have HK:=Lib.hid hk
     clear hg hk hel
     generalize x.circles[k]=e at *
     generalize tot (cIn ch) (x.circles.take k)=r at *
     by_cases t:e.to=ch
     ·have hv:cIn ch e=e.amt:=if_pos t
      have HV:=Lib.hid hv;clear hv
      go_wp2
      go_roundg (x.circles.length-(k+1))
      case measure=>have:=HK.out;omega
      case rel=>exact⟨k+1,by have:=HK.out;omega,by go_num,by rw[HT.out,HV.out];try go_num,HG.out.alloc _ _⟩
     ·have hv:cIn ch e=0:=if_neg t
      have HV:=Lib.hid hv;clear hv
      go_wp2
      go_roundg (x.circles.length-(k+1))
      case measure=>have:=HK.out;omega
      case rel=>exact⟨k+1,by have:=HK.out;omega,by go_num,by rw[HT.out,HV.out];simp,HG.out.alloc _ _⟩
    ·have hke:k=x.circles.length:=by omega
     have hs:tot (cIn ch) (x.circles.take k)=tot (cIn ch) x.circles:=by rw[hke,List.take_length]
     rw[hs]
     have HG:=Lib.hid hg;clear hke hs hg hk
     generalize tot (cIn ch) x.circles=r at *
     go_wp2
     go_ret
     exact⟨by rw[HP.out];first|rfl|(congr 1;done)|go_num,HG.out⟩
theorem transit_c(x:Book)(a0:Option Addr)(c0:Nat)(a1:Option Addr)(c1:Nat)(a2:Option Addr)(c2:Nat)(ch:Int)(w:World)(h1:SlR 7 repHtlc w 0 w.heap.size (.slice a1 x.htlcs.length c1) x.htlcs)(h2:SlR 5 repCircle w 0 w.heap.size (.slice a2 x.circles.length c2) x.circles)(sm:Small x) :
 Calls Try.prog 54 #[.agg #[.int .i64 x.tick,.int .i64 x.next,.int .i64 x.wallet,.slice a0 x.chans.length c0,.slice a1 x.htlcs.length c1,.slice a2 x.circles.length c2],.int .i64 ch] w fun e w'=>e=.returned (.tuple #[.int .i64 (outOf x ch),.int .i64 (intoOf x ch)])∧Grow w w':=by
 have H1:=Lib.hid h1;have H2:=Lib.hid h2;have SM:=Lib.hid sm
 have nh:=sm.nh
 have nc:=sm.nc
 clear h1 h2 sm
 go_enter Try.func54,Try.ntmps54
 go_wp2
 have hg0:Grow w (w.alloc (.cells #[.int .i64 x.tick,.int .i64 x.next,.int .i64 x.wallet,.slice a0 x.chans.length c0,.slice a1 x.htlcs.length c1,.slice a2 x.circles.length c2] 27)):=(Grow.refl _).alloc _ _
 have hb:BookAt (w.alloc (.cells #[.int .i64 x.tick,.int .i64 x.next,.int .i64 x.wallet,.slice a0 x.chans.length c0,.slice a1 x.htlcs.length c1,.slice a2 x.circles.length c2] 27)) w.heap.size x a0 c0 a1 c1 a2 c2:=BookAt.new x a0 c0 a1 c1 a2 c2 w
 obtain⟨W,hW⟩:∃W,W=w.alloc (.cells #[.int .i64 x.tick,.int .i64 x.next,.int .i64 x.wallet,.slice a0 x.chans.length c0,.slice a1 x.htlcs.length c1,.slice a2 x.circles.length c2] 27):=⟨_,rfl⟩
 rw[←hW]at hg0 hb ⊢
 have HB:=Lib.hid hb;have HG0:=Lib.hid hg0
 clear hW hb hg0
 go_loopg [6,7,15] x.htlcs.length (fun g n m i wr=>∃k:Nat,k+g=x.htlcs.length∧i=.int .i64 k∧n=.int .i64 (tot (hOut ch) (x.htlcs.take k))∧m=.int .i64 (tot (hIn ch) (x.htlcs.take k))∧Grow W wr)
 case atStart=>exact⟨0,by simp,rfl,rfl,rfl,Grow.refl _⟩
 case round=>
  obtain⟨k,hk,rfl,rfl,rfl,hg⟩:=hrel
  by_cases hlt:k<x.htlcs.length
  ·obtain⟨b,off,rfl,hb1,hb2,hel⟩:=H1.out.elems k hlt
   obtain⟨e0,e1,e2,e3,e4,e5,e6,_⟩:=Htlc.atCell (hel.same repHtlc_stable ((HG0.out.trans hg).same (Nat.le_refl _)) hb1 hb2) k hlt
   have HT:Hid (tot (hOut ch) (x.htlcs.take (k+1))=tot (hOut ch) (x.htlcs.take k)+hOut ch x.htlcs[k]):=tot_succ _ _ hlt
   have HT2:Hid (tot (hIn ch) (x.htlcs.take (k+1))=tot (hIn ch) (x.htlcs.take k)+hIn ch x.htlcs[k]):=tot_succ _ _ hlt
   obtain⟨s1,s2⟩:=tot_lim 60 (by omega) (SM.out.hOut ch) nh k
   obtain⟨s3,s4⟩:=tot_lim 60 (by omega) (SM.out.hIn ch) nh k
   obtain⟨v1,v2,v3,v4⟩:=SM.out.h x.htlcs[k] (List.getElem_mem hlt)
   have HG:=Lib.hid hg;have HK:=Lib.hid hk
   clear hg hk hel
   generalize x.htlcs[k]=e at *
   generalize tot (hOut ch) (x.htlcs.take k)=s at *
   generalize tot (hIn ch) (x.htlcs.take k)=r at *
   by_cases t:e.out=ch<;>by_cases t2:e.inn=ch
   all_goals
    have HV:Hid (hOut ch e=_):=(by first|exact if_pos t|exact if_neg t)
    have HV2:Hid (hIn ch e=_):=(by first|exact if_pos t2|exact if_neg t2)
    go_wp2
    go_roundg (x.htlcs.length-(k+1))
    case measure=>have:=HK.out;omega
    case rel=>exact⟨k+1,by have:=HK.out;omega,by go_num,by rw[HT.out,HV.out];try first|go_num|simp,by rw[HT2.out,HV2.out];try first|go_num|simp,HG.out.alloc _ _⟩
  ·have hke:k=x.htlcs.length:=by omega
   have hs:tot (hOut ch) (x.htlcs.take k)=tot (hOut ch) x.htlcs:=by rw[hke,List.take_length]
   have hs2:tot (hIn ch) (x.htlcs.take k)=tot (hIn ch) x.htlcs:=by rw[hke,List.take_length]
   obtain⟨s1,s2⟩:=tot_lim 60 (by omega) (SM.out.hOut ch) nh k
   obtain⟨s3,s4⟩:=tot_lim 60 (by omega) (SM.out.hIn ch) nh k
   rw[hs]at s1 s2 ⊢
   rw[hs2]at s3 s4 ⊢
   have HP:Hid (outOf x ch=tot (hOut ch) x.htlcs+tot (cOut ch) x.circles):=rfl
   have HP2:Hid (intoOf x ch=tot (hIn ch) x.htlcs+tot (cIn ch) x.circles):=rfl
   generalize tot (hOut ch) x.htlcs=s at *
   generalize tot (hIn ch) x.htlcs=r at *
   obtain⟨k0,k1,k2,k3,k4,k5⟩:=HB.out.grow hg
   have HGW:=Lib.hid (HG0.out.trans hg)
   clear hke hs hs2 hg hk
   go_wp2
   clear k0 k1 k2 k3 k4 k5
   go_loopg [6,7,39] x.circles.length (fun g n m i wr'=>∃k:Nat,k+g=x.circles.length∧i=.int .i64 k∧n=.int .i64 (s+tot (cOut ch) (x.circles.take k))∧m=.int .i64 (r+tot (cIn ch) (x.circles.take k))∧Grow w wr')
   case atStart=>exact⟨0,by simp,rfl,by simp[tot],by simp[tot],HGW.out⟩
   case round=>
    obtain⟨k,hk,rfl,rfl,rfl,hg⟩:=hrel
    by_cases hlt:k<x.circles.length
    ·obtain⟨b,off,rfl,hb1,hb2,hel⟩:=H2.out.elems k hlt
     obtain⟨e0,e1,e2,e3,e4,_⟩:=Circle.atCell (hel.same repCircle_stable (hg.same (Nat.le_refl _)) hb1 hb2) k hlt
     have HT:Hid (tot (cOut ch) (x.circles.take (k+1))=tot (cOut ch) (x.circles.take k)+cOut ch x.circles[k]):=tot_succ _ _ hlt
     have HT2:Hid (tot (cIn ch) (x.circles.take (k+1))=tot (cIn ch) (x.circles.take k)+cIn ch x.circles[k]):=tot_succ _ _ hlt
     obtain⟨s5,s6⟩:=tot_lim 20 (by omega) (SM.out.cOut ch) nc k
     obtain⟨s7,s8⟩:=tot_lim 20 (by omega) (SM.out.cIn ch) nc k
     obtain⟨v1,v2,v3,v4⟩:=SM.out.c x.circles[k] (List.getElem_mem hlt)
     have HG:=Lib.hid hg;have HK:=Lib.hid hk
     clear hg hk hel
     generalize x.circles[k]=e at *
     generalize tot (cOut ch) (x.circles.take k)=p at *
     generalize tot (cIn ch) (x.circles.take k)=q at *
     by_cases t:e.frm=ch<;>by_cases t2:e.to=ch
     all_goals
      have HV:Hid (cOut ch e=_):=(by first|exact if_pos t|exact if_neg t)
      have HV2:Hid (cIn ch e=_):=(by first|exact if_pos t2|exact if_neg t2)
      go_wp2
      go_roundg (x.circles.length-(k+1))
      case measure=>have:=HK.out;omega
      case rel=>exact⟨k+1,by have:=HK.out;omega,by go_num,by rw[HT.out,HV.out];try first|go_num|simp,by rw[HT2.out,HV2.out];try first|go_num|simp,HG.out.alloc _ _⟩
    ·have hke:k=x.circles.length:=by omega
     have hs:tot (cOut ch) (x.circles.take k)=tot (cOut ch) x.circles:=by rw[hke,List.take_length]
     have hs2:tot (cIn ch) (x.circles.take k)=tot (cIn ch) x.circles:=by rw[hke,List.take_length]
     rw[hs,hs2]
     have HG:=Lib.hid hg;clear hke hs hs2 hg hk
     generalize tot (cOut ch) x.circles=p at *
     generalize tot (cIn ch) x.circles=q at *
     go_wp2
     go_ret2
     exact⟨by rw[HP.out,HP2.out];first|rfl|(congr 1;done)|go_num,HG.out⟩
end Go.Proofs.Ytnlpbgljaecdmaa
namespace Go.Proofs.Ytnlpbgljaecdmaa
open Go.RowKit
set_option maxHeartbeats 16000000
set_option maxRecDepth 100000
set_option linter.unusedSimpArgs false
set_option linter.unusedVariables false
def hOk(l:List Chan)(h:Htlc):Bool:=amtOk h.amtIn&&decide (1≤h.amtOut)&&decide (h.amtOut≤h.amtIn)&&amtOk h.age&&two l h.inn h.out
def cOk(l:List Chan)(c:Circle):Bool:=amtOk c.amt&&decide (1≤c.amt)&&amtOk c.fee&&two l c.frm c.to
def keysOf(x:Book):List Int:=x.htlcs.map (·.key)++x.circles.map (·.key)
def keyAt(ks:List Int)(i:Nat):Bool:=keyOk (ks.getD i 0)&&!hasI (ks.take i) (ks.getD i 0)
def keysOk(ks:List Int):Bool:=(List.range ks.length).all (keyAt ks)
def partsOk(x:Book):Bool:=decide (x.htlcs.length≤60)&&decide (x.circles.length≤20)&&x.htlcs.all (hOk x.chans)&&x.circles.all (cOk x.chans)&&keysOk (keysOf x)
theorem hOk_iff{l:List Chan}{h:Htlc}:hOk l h=true↔amtOk h.amtIn=true∧1≤h.amtOut∧h.amtOut≤h.amtIn∧amtOk h.age=true∧two l h.inn h.out=true:=by
 simp[hOk,and_assoc]
theorem cOk_iff{l:List Chan}{c:Circle}:cOk l c=true↔amtOk c.amt=true∧1≤c.amt∧amtOk c.fee=true∧two l c.frm c.to=true:=by
 simp[cOk,and_assoc]
theorem all_take_succ{α:Type}{p:α→Bool}{l:List α}{k:Nat}(hk:k<l.length):(l.take (k+1)).all p=((l.take k).all p&&p l[k]):=by
 rw[List.take_succ_eq_append_getElem hk,List.all_append];simp
theorem all_false_of{α:Type}{p:α→Bool}{l:List α}{k:Nat}(hk:k<l.length)(h:p l[k]=false):l.all p=false:=by
 rw[List.all_eq_false];exact⟨l[k],List.getElem_mem hk,by simp[h]⟩
theorem keysOk_no{ks:List Int}{k:Nat}(hk:k<ks.length)(h:keyAt ks k=false):keysOk ks=false:=by
 unfold keysOk;rw[List.all_eq_false];exact⟨k,by simpa using hk,by simp[h]⟩
theorem keysOk_yes{ks:List Int}(h:∀j,j<ks.length→keyAt ks j=true):keysOk ks=true:=by
 unfold keysOk;rw[List.all_eq_true];intro j hj;exact h j (by simpa using hj)
theorem infoInt:(Try.prog.info? 3).map (fun i=>(i.zero,i.size,i.bytes))=some (some (.int .i64 0),1,8):=by kernel_rfl
theorem SlR.wfAll{α:Type}{sz:Nat}{rep:World→Nat→Nat→List Value→α→Prop}{w:World}{lo hi:Nat}{v:Value}{xs:List α}{P:α→Prop}(h:SlR sz rep w lo hi v xs)(hp:∀cs x,rep w lo hi cs x→P x):∀x∈xs,P x:=fun x hx=>by
 obtain⟨i,hi',rfl⟩:=List.getElem_of_mem hx
 obtain⟨a_,c_,heq,_,_,h3⟩:=h
 rcases h3 with h3|⟨b,off,_,_,_,he⟩
 ·subst h3;exact absurd hi' (by simp)
 ·obtain⟨cs,hr,_⟩:=he i hi'
  exact hp _ _ hr
theorem keys_i64{x:Book}{w:World}{v1 v2:Value}{lo hi lo' hi':Nat}(h1:SlR 7 repHtlc w lo hi v1 x.htlcs)(h2:SlR 5 repCircle w lo' hi' v2 x.circles):∀y∈keysOf x,i64 y:=fun y hy=>by
 unfold keysOf at hy
 rcases List.mem_append.1 hy with hy|hy
 ·obtain⟨e,he,rfl⟩:=List.mem_map.1 hy
  exact h1.wfAll (P:=fun e=>i64 e.key) (fun _ _ hr=>hr.2.1) e he
 ·obtain⟨e,he,rfl⟩:=List.mem_map.1 hy
  exact h2.wfAll (P:=fun e=>i64 e.key) (fun _ _ hr=>hr.2.1) e he
theorem length_encInt(x:Int):(encInt x).length=1:=rfl
theorem own_snoc{w:World}{base:Nat}{e:TypeId}{v:Value}{l:List Int}{y:Int}(h:w.ownsRow base e 1 v (l.length+1) (l.flatMap encInt++[.int .i64 y])) :
 w.ownsRow base e 1 v (l++[y]).length ((l++[y]).flatMap encInt):=by
 rw[List.flatMap_append,List.length_append];exact h
theorem one_int(y:Int):∀u∈[Value.int .i64 y],u.oneCell'=true:=by
 intro u hu;rw[List.mem_singleton]at hu;subst hu;rfl
theorem impl_partsOk_c(x:Book)(a0:Option Addr)(c0:Nat)(a1:Option Addr)(c1:Nat)(a2:Option Addr)(c2:Nat)(w:World)(h0:SlR 7 repChan w 0 w.heap.size (.slice a0 x.chans.length c0) x.chans)(h1:SlR 7 repHtlc w 0 w.heap.size (.slice a1 x.htlcs.length c1) x.htlcs)(h2:SlR 5 repCircle w 0 w.heap.size (.slice a2 x.circles.length c2) x.circles)(hn:x.chans.length≤1048576) :
 Calls Try.prog 51 #[.agg #[.int .i64 x.tick,.int .i64 x.next,.int .i64 x.wallet,.slice a0 x.chans.length c0,.slice a1 x.htlcs.length c1,.slice a2 x.circles.length c2]] w fun e w'=>e=.returned (.bool (partsOk x))∧Grow w w':=by
 obtain⟨i0,hi0,hz0,hz1,hz2⟩:=info_parts infoInt
 have hg0:Grow w (w.alloc (.cells #[.int .i64 x.tick,.int .i64 x.next,.int .i64 x.wallet,.slice a0 x.chans.length c0,.slice a1 x.htlcs.length c1,.slice a2 x.circles.length c2] 27)):=(Grow.refl _).alloc _ _
 have H0:=Lib.hid h0;have H1:=Lib.hid h1;have H2:=Lib.hid h2
 clear h0 h1 h2
 by_cases nh:x.htlcs.length≤60
 rotate_left
 ·have q:decide ((60:Int)<(x.htlcs.length:Int))=true:=by simp;omega
  have hr:partsOk x=false:=by simp[partsOk,nh]
  have HR:=Lib.hid hr;have HG:=Lib.hid hg0;clear hr nh hg0
  go_enter Try.func51,Try.ntmps51
  go_wp2
  all_goals
   go_ret
   exact⟨by rw[HR.out];rfl,HG.out⟩
 have q:decide ((60:Int)<(x.htlcs.length:Int))=false:=by simp;omega
 by_cases nc:x.circles.length≤20
 rotate_left
 ·have q:decide ((20:Int)<(x.circles.length:Int))=true:=by simp;omega
  have hr:partsOk x=false:=by simp[partsOk,nc]
  have HR:=Lib.hid hr;have HG:=Lib.hid hg0;clear hr nc hg0
  go_enter Try.func51,Try.ntmps51
  go_wp2
  all_goals
   go_ret
   exact⟨by rw[HR.out];rfl,HG.out⟩
 have q2:decide ((20:Int)<(x.circles.length:Int))=false:=by simp;omega
 have hmf:∀(fn:Fn) (first cap:Array Value) (w:World),(Instr.makeFunc fn first cap).run Try.prog w=.ok (.func fn first cap) w:=fun _ _ _ _=>rfl
 have hb:BookAt (w.alloc (.cells #[.int .i64 x.tick,.int .i64 x.next,.int .i64 x.wallet,.slice a0 x.chans.length c0,.slice a1 x.htlcs.length c1,.slice a2 x.circles.length c2] 27)) w.heap.size x a0 c0 a1 c1 a2 c2:=BookAt.new x a0 c0 a1 c1 a2 c2 w
 have HB:=Lib.hid hb;have HG0:=Lib.hid hg0
 clear hb hg0
 go_enter Try.func51,Try.ntmps51
 go_wp2
 obtain⟨W,hW⟩:∃W,W=w.alloc (.cells #[.int .i64 x.tick,.int .i64 x.next,.int .i64 x.wallet,.slice a0 x.chans.length c0,.slice a1 x.htlcs.length c1,.slice a2 x.circles.length c2] 27):=⟨_,rfl⟩
 rw[←hW]at HB HG0 ⊢
 clear hW
 go_loopg [4,25] x.htlcs.length (fun g v i wr=>∃k:Nat,k+g=x.htlcs.length∧i=.int .i64 k∧(x.htlcs.take k).all (hOk x.chans)=true∧Grow W wr∧wr.ownsRow W.heap.size 3 1 v ((x.htlcs.take k).map (·.key)).length (((x.htlcs.take k).map (·.key)).flatMap encInt))
 case atStart=>exact⟨0,by simp,rfl,by simp,Grow.refl _,World.ownsRow_nil _ _ _ _⟩
 case round=>
  obtain⟨k,hk,rfl,hall,hg,hown⟩:=hrel
  have HALL:=Lib.hid hall;have HOWN:=Lib.hid hown;clear hall hown
  by_cases hlt:k<x.htlcs.length
  ·obtain⟨b,off,rfl,hb1,hb2,hel⟩:=H1.out.elems k hlt
   obtain⟨e0,e1,e2,e3,e4,e5,e6,_⟩:=Htlc.atCell (hel.same repHtlc_stable ((HG0.out.trans hg).same (Nat.le_refl _)) hb1 hb2) k hlt
   have HE:Hid (hOk x.chans x.htlcs[k]=false→partsOk x=false):=fun h=>by
    unfold partsOk;rw[all_false_of hlt h];simp
   have HT:Hid ((x.htlcs.take (k+1)).all (hOk x.chans)=((x.htlcs.take k).all (hOk x.chans)&&hOk x.chans x.htlcs[k])):=all_take_succ hlt
   have HM:Hid ((x.htlcs.take (k+1)).map (·.key)=(x.htlcs.take k).map (·.key)++[x.htlcs[k].key]):=by
    show _=_
    rw[List.take_succ_eq_append_getElem hlt,List.map_append];rfl
   have HL:Hid (((x.htlcs.take k).map (·.key)).length≤60):=by
    show _≤_
    rw[List.length_map,List.length_take];omega
   have HG:=Lib.hid hg;have HK:=Lib.hid hk
   have hwz:W.heap.size≤wr.heap.size:=hg.size
   have hz0':b<wr.heap.size:=by have:=(HG0.out.trans hg).size;omega
   clear hg hk hel
   generalize x.htlcs[k]=e at *
   generalize (x.htlcs.take k).map (·.key)=ks at *
   by_cases hok:hOk x.chans e=true
   ·obtain⟨d1,d2,d3,d4,d5⟩:=hOk_iff.1 hok
    have HOK:=Lib.hid hok;clear hok
    go_wp2_with (first
     |(go_at_call 34;refine(impl_AmtOk_c _ _).mono ?_;rintro e w' ⟨rfl,rfl⟩)
     |(go_at_call 65;refine(apart_c x _ _ _ _ _ _ _ _ w.heap.size _ (HB.out.grow (HG.out.alloc _ _)) (H0.out.grow' repChan_stable ((HG0.out.trans HG.out).alloc _ _).below) hn).mono ?_;rintro e wc ⟨rfl,gc⟩
       have kc:wc.cell? ⟨wr.heap.size,0,none⟩=some (.int .i64 e.key):=cellGrow gc (cell_new 0 rfl)
       have hgc:=(HG.out.alloc _ _).trans gc
       have hoc:=own_grow HOWN.out (((Grow.refl _).alloc _ _).trans gc)
       have HGC:=Lib.hid hgc;have HOC:=Lib.hid hoc;clear hgc hoc gc)
     |(at_builtin
       refine wpList_append_g rfl (.tmp 60) (.tmp 63) 46 rfl W (HGC.out.alloc _ _) 3 i0 _ 1 8 Try.underlying46 hi0 hz0 hz1 hz2 rfl (by omega) u4 ks.length (ks.flatMap encInt) rfl (own_grow HOC.out ((Grow.refl _).alloc _ _)) ⟨wc.heap.size,0,none⟩ 1 1 [.int .i64 e.key] rfl rfl (cell_one_new _ _ _) (one_int _) (by have:=HL.out;simp only[maxLen];omega) (by have:=HL.out;omega) ?_
       intro v' w' hown' hg' hgb hat
       have HOWN':=Lib.hid (own_snoc hown');have HG':=Lib.hid hg';clear hown' hg' hgb hat))
    go_roundg (x.htlcs.length-(k+1))
    case measure=>have:=HK.out;omega
    case rel=>exact⟨k+1,by have:=HK.out;omega,by go_num,by rw[HT.out,HALL.out,HOK.out];rfl,HG'.out,by rw[HM.out];exact HOWN'.out⟩
   ·have hr:=HE.out (by simpa using hok)
    have HR:=Lib.hid hr;have HOK:=Lib.hid hok;clear hr hok
    cases d5:two x.chans e.inn e.out
    all_goals
     go_wp2_with (first
      |(go_at_call 34;refine(impl_AmtOk_c _ _).mono ?_;rintro e w' ⟨rfl,rfl⟩)
      |(go_at_call 65;refine(apart_c x _ _ _ _ _ _ _ _ w.heap.size _ (HB.out.grow (HG.out.alloc _ _)) (H0.out.grow' repChan_stable ((HG0.out.trans HG.out).alloc _ _).below) hn).mono ?_;rintro e wc ⟨rfl,gc⟩
        have kc:wc.cell? ⟨wr.heap.size,0,none⟩=some (.int .i64 e.key):=cellGrow gc (cell_new 0 rfl)
        have hgc:=(HG.out.alloc _ _).trans gc
        have hoc:=own_grow HOWN.out (((Grow.refl _).alloc _ _).trans gc)
        have HGC:=Lib.hid hgc;have HOC:=Lib.hid hoc;clear hgc hoc gc)
      |(at_builtin
        refine wpList_append_g rfl (.tmp 60) (.tmp 63) 46 rfl W (HGC.out.alloc _ _) 3 i0 _ 1 8 Try.underlying46 hi0 hz0 hz1 hz2 rfl (by omega) u4 ks.length (ks.flatMap encInt) rfl (own_grow HOC.out ((Grow.refl _).alloc _ _)) ⟨wc.heap.size,0,none⟩ 1 1 [.int .i64 e.key] rfl rfl (cell_one_new _ _ _) (one_int _) (by have:=HL.out;simp only[maxLen];omega) (by have:=HL.out;omega) ?_
        intro v' w' hown' hg' hgb hat
        have HOWN':=Lib.hid (own_snoc hown');have HG':=Lib.hid hg';clear hown' hg' hgb hat))
     all_goals first
      |(go_ret
        exact⟨by rw[HR.out];rfl,HG0.out.trans HGC.out⟩)
      |(go_ret
        exact⟨by rw[HR.out];rfl,HG0.out.trans (HG.out.alloc _ _)⟩)
      |(exfalso;exact HOK.out (hOk_iff.2 ⟨by assumption,by omega,by omega,by assumption,by assumption⟩))
  ·have hke:k=x.htlcs.length:=by omega
   have HAH:=HALL.out
   rw[hke,List.take_length]at HAH
   have hown:=HOWN.out
   rw[hke,List.take_length]at hown
   have hl0:(x.htlcs.map (·.key)).length≤60:=by rw[List.length_map];omega
   have HKO:Hid (keysOf x=x.htlcs.map (·.key)++x.circles.map (·.key)):=rfl
   generalize x.htlcs.map (·.key)=ks0 at *
   obtain⟨k0,k1,k2,k3,k4,k5⟩:=HB.out.grow hg
   have HG0:=HG0
   have HGA:=Lib.hid hg;have HOWN0:=Lib.hid hown;have HAH':=Lib.hid HAH
   clear hke hk hg hown HAH HALL HOWN
   go_wp2
   clear k0 k1 k2 k3 k4 k5
   go_loopg [4,69] x.circles.length (fun g v i wr'=>∃k:Nat,k+g=x.circles.length∧i=.int .i64 k∧(x.circles.take k).all (cOk x.chans)=true∧Grow W wr'∧wr'.ownsRow W.heap.size 3 1 v (ks0++(x.circles.take k).map (·.key)).length ((ks0++(x.circles.take k).map (·.key)).flatMap encInt))
   case atStart=>exact⟨0,by simp,rfl,by simp,HGA.out,by simpa using HOWN0.out⟩
   case round=>
    obtain⟨k,hk,rfl,hall,hg,hown⟩:=hrel
    have HALL:=Lib.hid hall;have HOWN:=Lib.hid hown;clear hall hown
    by_cases hlt:k<x.circles.length
    ·obtain⟨b,off,rfl,hb1,hb2,hel⟩:=H2.out.elems k hlt
     obtain⟨e0,e1,e2,e3,e4,_⟩:=Circle.atCell (hel.same repCircle_stable ((HG0.out.trans hg).same (Nat.le_refl _)) hb1 hb2) k hlt
     have HE:Hid (cOk x.chans x.circles[k]=false→partsOk x=false):=fun h=>by
      unfold partsOk;rw[all_false_of hlt h];simp
     have HT:Hid ((x.circles.take (k+1)).all (cOk x.chans)=((x.circles.take k).all (cOk x.chans)&&cOk x.chans x.circles[k])):=all_take_succ hlt
     have HM:Hid (ks0++(x.circles.take (k+1)).map (·.key)=(ks0++(x.circles.take k).map (·.key))++[x.circles[k].key]):=by
      show _=_
      rw[List.take_succ_eq_append_getElem hlt,List.map_append,List.append_assoc];rfl
     have HL:Hid ((ks0++(x.circles.take k).map (·.key)).length≤80):=by
      show _≤_
      rw[List.length_append,List.length_map,List.length_take];omega
     have HG:=Lib.hid hg;have HK:=Lib.hid hk
     have hwz:W.heap.size≤wr.heap.size:=hg.size
     have hz0':b<wr.heap.size:=by have:=(HG0.out.trans hg).size;omega
     clear hg hk hel
     generalize x.circles[k]=e at *
     generalize hks:ks0++(x.circles.take k).map (·.key)=ks at *
     have HKS:=Lib.hid hks;clear hks
     by_cases hok:cOk x.chans e=true
     ·obtain⟨d1,d2,d3,d5⟩:=cOk_iff.1 hok
      have HOK:=Lib.hid hok;clear hok
      go_wp2_with (first
       |(go_at_call 34;refine(impl_AmtOk_c _ _).mono ?_;rintro e w' ⟨rfl,rfl⟩)
       |(go_at_call 65;refine(apart_c x _ _ _ _ _ _ _ _ w.heap.size _ (HB.out.grow (HG.out.alloc _ _)) (H0.out.grow' repChan_stable ((HG0.out.trans HG.out).alloc _ _).below) hn).mono ?_;rintro e wc ⟨rfl,gc⟩
         have kc:wc.cell? ⟨wr.heap.size,0,none⟩=some (.int .i64 e.key):=cellGrow gc (cell_new 0 rfl)
         have hgc:=(HG.out.alloc _ _).trans gc
         have hoc:=own_grow HOWN.out (((Grow.refl _).alloc _ _).trans gc)
         have HGC:=Lib.hid hgc;have HOC:=Lib.hid hoc;clear hgc hoc gc)
       |(at_builtin
         refine wpList_append_g rfl (.tmp 97) (.tmp 100) 46 rfl W (HGC.out.alloc _ _) 3 i0 _ 1 8 Try.underlying46 hi0 hz0 hz1 hz2 rfl (by omega) u4 ks.length (ks.flatMap encInt) rfl (own_grow HOC.out ((Grow.refl _).alloc _ _)) ⟨wc.heap.size,0,none⟩ 1 1 [.int .i64 e.key] rfl rfl (cell_one_new _ _ _) (one_int _) (by have:=HL.out;simp only[maxLen];omega) (by have:=HL.out;omega) ?_
         intro v' w' hown' hg' hgb hat
         have HOWN':=Lib.hid (own_snoc hown');have HG':=Lib.hid hg';clear hown' hg' hgb hat))
      go_roundg (x.circles.length-(k+1))
      case measure=>have:=HK.out;omega
      case rel=>exact⟨k+1,by have:=HK.out;omega,by go_num,by rw[HT.out,HALL.out,HOK.out];rfl,HG'.out,by rw[HM.out];exact HOWN'.out⟩
     ·have hr:=HE.out (by simpa using hok)
      have HR:=Lib.hid hr;have HOK:=Lib.hid hok;clear hr hok
      cases d5:two x.chans e.frm e.to
      all_goals
       go_wp2_with (first
        |(go_at_call 34;refine(impl_AmtOk_c _ _).mono ?_;rintro e w' ⟨rfl,rfl⟩)
        |(go_at_call 65;refine(apart_c x _ _ _ _ _ _ _ _ w.heap.size _ (HB.out.grow (HG.out.alloc _ _)) (H0.out.grow' repChan_stable ((HG0.out.trans HG.out).alloc _ _).below) hn).mono ?_;rintro e wc ⟨rfl,gc⟩
          have kc:wc.cell? ⟨wr.heap.size,0,none⟩=some (.int .i64 e.key):=cellGrow gc (cell_new 0 rfl)
          have hgc:=(HG.out.alloc _ _).trans gc
          have hoc:=own_grow HOWN.out (((Grow.refl _).alloc _ _).trans gc)
          have HGC:=Lib.hid hgc;have HOC:=Lib.hid hoc;clear hgc hoc gc)
        |(at_builtin
          refine wpList_append_g rfl (.tmp 97) (.tmp 100) 46 rfl W (HGC.out.alloc _ _) 3 i0 _ 1 8 Try.underlying46 hi0 hz0 hz1 hz2 rfl (by omega) u4 ks.length (ks.flatMap encInt) rfl (own_grow HOC.out ((Grow.refl _).alloc _ _)) ⟨wc.heap.size,0,none⟩ 1 1 [.int .i64 e.key] rfl rfl (cell_one_new _ _ _) (one_int _) (by have:=HL.out;simp only[maxLen];omega) (by have:=HL.out;omega) ?_
          intro v' w' hown' hg' hgb hat
          have HOWN':=Lib.hid (own_snoc hown');have HG':=Lib.hid hg';clear hown' hg' hgb hat))
       all_goals first
        |(go_ret
          exact⟨by rw[HR.out];rfl,HG0.out.trans HGC.out⟩)
        |(go_ret
          exact⟨by rw[HR.out];rfl,HG0.out.trans (HG.out.alloc _ _)⟩)
        |(exfalso;exact HOK.out (cOk_iff.2 ⟨by assumption,by omega,by assumption,by assumption⟩))
    ·have hke:k=x.circles.length:=by omega
     have HAC:=HALL.out
     rw[hke,List.take_length]at HAC
     have hown:=HOWN.out
     rw[hke,List.take_length,←HKO.out]at hown
     have hki:=keys_i64 H1.out H2.out
     obtain⟨V,rfl⟩:∃V,V=wr:=⟨_,rfl⟩
     have hsl:SlR 1 repInt V W.heap.size V.heap.size u4 (keysOf x):=SlR.of_own length_encInt hown (fun y hy=>⟨rfl,hki y hy⟩)
     have hlen:(keysOf x).length≤80:=by unfold keysOf;rw[List.length_append,List.length_map,List.length_map];omega
     have HNO:Hid (∀j,j<(keysOf x).length→keyAt (keysOf x) j=false→partsOk x=false):=fun j h1 h2=>by
      unfold partsOk;rw[keysOk_no h1 h2];simp
     have HYES:Hid ((∀j,j<(keysOf x).length→keyAt (keysOf x) j=true)→partsOk x=true):=fun h=>by
      unfold partsOk;rw[keysOk_yes h,HAH'.out,HAC];simp[nh,nc]
     have HG:=Lib.hid (HG0.out.trans hg)
     clear hke hk hg hown HAC HALL HOWN hki HKO HAH' HGA
     generalize keysOf x=K at *
     have hsl':=hsl
     obtain⟨av,cv,rfl,hc1,hc2,_⟩:=hsl'
     have HSL:=Lib.hid hsl;clear hsl
     go_wp2
     go_loopg [105] K.length (fun g i wq=>∃k:Nat,k+g=K.length∧i=.int .i64 k∧(∀j,j<k→keyAt K j=true)∧wq=V)
     case atStart=>exact⟨0,by simp,rfl,fun j h=>absurd h (by omega),rfl⟩
     case round=>
      obtain⟨k,hk,rfl,hall,rfl⟩:=hrel
      have HALL:=Lib.hid hall;clear hall
      by_cases hlt:k<K.length
      ·obtain⟨b,off,rfl,hb1,hb2,hel⟩:=HSL.out.elems k hlt
       obtain⟨e0,_⟩:=Int.atCell hel k hlt
       have HKA:Hid (keyAt K k=(keyOk K[k]&&!hasI (K.take k) K[k])):=by
        show _=_
        unfold keyAt
        rw[List.getD_eq_getElem?_getD,List.getElem?_eq_getElem hlt];rfl
       have HK:=Lib.hid hk
       clear hk hel
       generalize K[k]=y at *
       have hkc:(k:Int)≤(cv:Int):=by omega
       cases q1:keyOk y<;>cases q2:hasI (K.take k) y
       all_goals
        have Q1:=Lib.hid q1;have Q2:=Lib.hid q2
        go_wp2_with (first
         |(go_at_call 66;refine(isKey_c _ _).mono ?_;rintro e w' ⟨rfl,rfl⟩)
         |(go_at_call 42;refine(hasTake_c K _ cv k y _ _ _ HSL.out (by omega) (by omega)).mono ?_;rintro e w' ⟨rfl,rfl⟩))
        first
         |(go_ret
           exact⟨by rw[HNO.out k hlt (by rw[HKA.out,Q1.out,Q2.out];rfl)];rfl,HG.out⟩)
         |(go_roundg (K.length-(k+1))
           case measure=>have:=HK.out;omega
           case rel=>exact⟨k+1,by have:=HK.out;omega,by go_num,fun j hj=>by
            by_cases e:j=k
            ·subst e;rw[HKA.out,Q1.out,Q2.out];rfl
            ·exact HALL.out j (by omega),rfl⟩)
      ·have hr:partsOk x=true:=HYES.out (fun j hj=>HALL.out j (by omega))
       have HR:=Lib.hid hr;clear hr
       go_wp2
       go_ret
       exact⟨by rw[HR.out];rfl,HG.out⟩
end Go.Proofs.Ytnlpbgljaecdmaa
namespace Go.Proofs.Ytnlpbgljaecdmaa
open Go.RowKit
set_option maxHeartbeats 16000000
set_option maxRecDepth 100000
set_option linter.unusedSimpArgs false
set_option linter.unusedVariables false
theorem one_at(w:World)(c:Array Value)(T:TypeId)(y:Int):∀j u,[Value.int .i64 y][j]? = some u→((w.alloc (.cells c T)).alloc (.cells #[.int .i64 y] 3)).cell? ((⟨w.heap.size+1,0,none⟩:Addr).add j)=some u:=by
 have:=cell_one_new (w.alloc (.cells c T)) (.int .i64 y) 3
 rw[show (w.alloc (.cells c T)).heap.size=w.heap.size+1 by simp]at this
 exact this
theorem spec_Keys_c(x:Book)(a0:Option Addr)(c0:Nat)(a1:Option Addr)(c1:Nat)(a2:Option Addr)(c2:Nat)(w:World)(h1:SlR 7 repHtlc w 0 w.heap.size (.slice a1 x.htlcs.length c1) x.htlcs)(h2:SlR 5 repCircle w 0 w.heap.size (.slice a2 x.circles.length c2) x.circles)(nh:x.htlcs.length≤60)(nc:x.circles.length≤20) :
 Calls Try.prog 72 #[.agg #[.int .i64 x.tick,.int .i64 x.next,.int .i64 x.wallet,.slice a0 x.chans.length c0,.slice a1 x.htlcs.length c1,.slice a2 x.circles.length c2]] w fun e w'=>∃a c,e=.returned (.slice a (keysOf x).length c)∧Grow w w'∧SlR 1 repInt w' w.heap.size w'.heap.size (.slice a (keysOf x).length c) (keysOf x):=by
 obtain⟨i0,hi0,hz0,hz1,hz2⟩:=info_parts infoInt
 have hki:=keys_i64 h1 h2
 have HKI:=Lib.hid hki;clear hki
 have H1:=Lib.hid h1;have H2:=Lib.hid h2
 clear h1 h2
 have hg0:Grow w (w.alloc (.cells #[.int .i64 x.tick,.int .i64 x.next,.int .i64 x.wallet,.slice a0 x.chans.length c0,.slice a1 x.htlcs.length c1,.slice a2 x.circles.length c2] 27)):=(Grow.refl _).alloc _ _
 have hb:BookAt (w.alloc (.cells #[.int .i64 x.tick,.int .i64 x.next,.int .i64 x.wallet,.slice a0 x.chans.length c0,.slice a1 x.htlcs.length c1,.slice a2 x.circles.length c2] 27)) w.heap.size x a0 c0 a1 c1 a2 c2:=BookAt.new x a0 c0 a1 c1 a2 c2 w
 have HB:=Lib.hid hb;have HG0:=Lib.hid hg0
 clear hb hg0
 go_enter Try.func72,Try.ntmps72
 go_wp2
 have hsz:(w.alloc (.cells #[.int .i64 x.tick,.int .i64 x.next,.int .i64 x.wallet,.slice a0 x.chans.length c0,.slice a1 x.htlcs.length c1,.slice a2 x.circles.length c2] 27)).heap.size=w.heap.size+1:=by simp
 obtain⟨W,hW⟩:∃W,W=w.alloc (.cells #[.int .i64 x.tick,.int .i64 x.next,.int .i64 x.wallet,.slice a0 x.chans.length c0,.slice a1 x.htlcs.length c1,.slice a2 x.circles.length c2] 27):=⟨_,rfl⟩
 rw[←hW]at HB HG0 hsz ⊢
 clear hW
 have hmade:=World.ownsRow_made (base:=W.heap.size) (e:=3) (size:=1) W #[] 0 (Nat.le_refl _) (by simp[maxLen]) (by simp)
 rw[hsz]at hmade
 rw[←hsz]at hmade
 have HMADE:=Lib.hid hmade;clear hmade
 rw[←hsz]
 clear hsz
 go_loopg [3,12] x.htlcs.length (fun g v i wr=>∃k:Nat,k+g=x.htlcs.length∧i=.int .i64 k∧Grow W wr∧wr.ownsRow W.heap.size 3 1 v ((x.htlcs.take k).map (·.key)).length (((x.htlcs.take k).map (·.key)).flatMap encInt))
 case atStart=>exact⟨0,by simp,rfl,(Grow.refl _).alloc _ _,HMADE.out⟩
 case round=>
  obtain⟨k,hk,rfl,hg,hown⟩:=hrel
  have HOWN:=Lib.hid hown;clear hown
  by_cases hlt:k<x.htlcs.length
  ·obtain⟨b,off,rfl,hb1,hb2,hel⟩:=H1.out.elems k hlt
   obtain⟨e0,e1,e2,e3,e4,e5,e6,_⟩:=Htlc.atCell (hel.same repHtlc_stable ((HG0.out.trans hg).same (Nat.le_refl _)) hb1 hb2) k hlt
   have HM:Hid ((x.htlcs.take (k+1)).map (·.key)=((x.htlcs.take k).map (·.key))++[x.htlcs[k].key]):=by
    show _=_
    rw[List.take_succ_eq_append_getElem hlt,List.map_append];rfl
   have HL:Hid (((x.htlcs.take k).map (·.key)).length≤60):=by
    show _≤_
    rw[List.length_map,List.length_take];omega
   have HG:=Lib.hid hg;have HK:=Lib.hid hk
   have hz0':b<wr.heap.size:=by have:=(HG0.out.trans hg).size;omega
   clear hg hk hel
   generalize x.htlcs[k]=e at *
   generalize hks:(x.htlcs.take k).map (·.key)=ks at *
   have HKS:=Lib.hid hks;clear hks
   go_wp2_with (at_builtin
                refine wpList_append_g rfl (.tmp 16) (.tmp 19) 46 rfl W ((HG.out.alloc _ _).alloc _ _) 3 i0 _ 1 8 Try.underlying46 hi0 hz0 hz1 hz2 rfl (by omega) u3 ks.length (ks.flatMap encInt) rfl (own_grow HOWN.out (((Grow.refl _).alloc _ _).alloc _ _)) ⟨wr.heap.size+1,0,none⟩ 1 1 [.int .i64 e.key] rfl rfl (one_at wr _ _ e.key) (one_int _) (by have:=HL.out;simp only[maxLen];omega) (by have:=HL.out;omega) ?_
                intro v' w' hown' hg' hgb hat
                have HOWN':=Lib.hid (own_snoc hown');have HG':=Lib.hid hg';clear hown' hg' hgb hat)
   go_roundg (x.htlcs.length-(k+1))
   case measure=>have:=HK.out;omega
   case rel=>exact⟨k+1,by have:=HK.out;omega,by go_num,HG'.out,by rw[HM.out];exact HOWN'.out⟩
  ·have hke:k=x.htlcs.length:=by omega
   have hown:=HOWN.out
   rw[hke,List.take_length]at hown
   have hl0:(x.htlcs.map (·.key)).length≤60:=by rw[List.length_map];omega
   have HKO:Hid (keysOf x=x.htlcs.map (·.key)++x.circles.map (·.key)):=rfl
   generalize x.htlcs.map (·.key)=ks0 at *
   obtain⟨k0,k1,k2,k3,k4,k5⟩:=HB.out.grow hg
   have HGA:=Lib.hid hg;have HOWN0:=Lib.hid hown
   clear hke hk hg hown HOWN
   go_wp2
   clear k0 k1 k2 k3 k4 k5
   go_loopg [3,25] x.circles.length (fun g v i wr=>∃k:Nat,k+g=x.circles.length∧i=.int .i64 k∧Grow W wr∧wr.ownsRow W.heap.size 3 1 v (ks0++(x.circles.take k).map (·.key)).length ((ks0++(x.circles.take k).map (·.key)).flatMap encInt))
   case atStart=>exact⟨0,by simp,rfl,HGA.out,by simpa using HOWN0.out⟩
   case round=>
    obtain⟨k,hk,rfl,hg,hown⟩:=hrel
    have HOWN:=Lib.hid hown;clear hown
    by_cases hlt:k<x.circles.length
    ·obtain⟨b,off,rfl,hb1,hb2,hel⟩:=H2.out.elems k hlt
     obtain⟨e0,e1,e2,e3,e4,_⟩:=Circle.atCell (hel.same repCircle_stable ((HG0.out.trans hg).same (Nat.le_refl _)) hb1 hb2) k hlt
     have HM:Hid (ks0++(x.circles.take (k+1)).map (·.key)=(ks0++(x.circles.take k).map (·.key))++[x.circles[k].key]):=by
      show _=_
      rw[List.take_succ_eq_append_getElem hlt,List.map_append,List.append_assoc];rfl
     have HL:Hid ((ks0++(x.circles.take k).map (·.key)).length≤80):=by
      show _≤_
      rw[List.length_append,List.length_map,List.length_take];omega
     have HG:=Lib.hid hg;have HK:=Lib.hid hk
     have hz0':b<wr.heap.size:=by have:=(HG0.out.trans hg).size;omega
     clear hg hk hel
     generalize x.circles[k]=e at *
     generalize hks:ks0++(x.circles.take k).map (·.key)=ks at *
     have HKS:=Lib.hid hks;clear hks
     go_wp2_with (at_builtin
                  refine wpList_append_g rfl (.tmp 29) (.tmp 32) 46 rfl W ((HG.out.alloc _ _).alloc _ _) 3 i0 _ 1 8 Try.underlying46 hi0 hz0 hz1 hz2 rfl (by omega) u3 ks.length (ks.flatMap encInt) rfl (own_grow HOWN.out (((Grow.refl _).alloc _ _).alloc _ _)) ⟨wr.heap.size+1,0,none⟩ 1 1 [.int .i64 e.key] rfl rfl (one_at wr _ _ e.key) (one_int _) (by have:=HL.out;simp only[maxLen];omega) (by have:=HL.out;omega) ?_
                  intro v' w' hown' hg' hgb hat
                  have HOWN':=Lib.hid (own_snoc hown');have HG':=Lib.hid hg';clear hown' hg' hgb hat)
     go_roundg (x.circles.length-(k+1))
     case measure=>have:=HK.out;omega
     case rel=>exact⟨k+1,by have:=HK.out;omega,by go_num,HG'.out,by rw[HM.out];exact HOWN'.out⟩
    ·have hke:k=x.circles.length:=by omega
     have hown:=HOWN.out
     rw[hke,List.take_length,←HKO.out]at hown
     have hsl:SlR 1 repInt wr W.heap.size wr.heap.size u3 (keysOf x):=SlR.of_own length_encInt hown (fun y hy=>⟨rfl,HKI.out y hy⟩)
     have hsl:=hsl.stable repInt_stable (Same.refl _ _ _) (lo':=w.heap.size) (by have:=HG0.out.size;omega) (Nat.le_refl _)
     have hsl':=hsl
     obtain⟨av,cv,rfl,_,_,_⟩:=hsl'
     have HSL:=Lib.hid hsl;have HG:=Lib.hid (HG0.out.trans hg)
     clear hke hk hg hown HOWN hsl HKO HKI
     go_wp2
     go_ret
     exact⟨av,cv,rfl,HG.out,HSL.out⟩
end Go.Proofs.Ytnlpbgljaecdmaa
namespace Go.Proofs.Ytnlpbgljaecdmaa
open Go.RowKit
set_option maxHeartbeats 16000000
set_option maxRecDepth 100000
set_option linter.unusedSimpArgs false
set_option linter.unusedVariables false
theorem hasTake2_c(xs:List Int)(a:Option Addr)(c k:Nat)(n:Int)(lo hi:Nat)(w:World)(h0:SlR 1 repInt w lo hi (.slice a xs.length c) xs)(hk:k≤xs.length)(hn:xs.length≤1048576) :
 Calls Try.prog 73 #[.slice a k c,.int .i64 n] w fun e w'=>e=.returned (.bool (hasI (xs.take k) n))∧w=w':=by
 have hl:(xs.take k).length=k:=by rw[List.length_take];omega
 have:=spec_HasInt_c (xs.take k) a c n lo hi w (h0.take k hk) (by omega)
 rw[hl]at this
 exact this
theorem spec_Under_c(x:Book)(a0:Option Addr)(c0:Nat)(a1:Option Addr)(c1:Nat)(a2:Option Addr)(c2:Nat)(w:World)(h0:SlR 7 repChan w 0 w.heap.size (.slice a0 x.chans.length c0) x.chans)(h1:SlR 7 repHtlc w 0 w.heap.size (.slice a1 x.htlcs.length c1) x.htlcs)(h2:SlR 5 repCircle w 0 w.heap.size (.slice a2 x.circles.length c2) x.circles)(hn:x.chans.length≤1048576)(nh:x.htlcs.length≤60)(nc:x.circles.length≤20) :
 Calls Try.prog 60 #[.agg #[.int .i64 x.tick,.int .i64 x.next,.int .i64 x.wallet,.slice a0 x.chans.length c0,.slice a1 x.htlcs.length c1,.slice a2 x.circles.length c2]] w fun e w'=>e=.returned (.bool (partsOk x))∧Grow w w':=by
 have hlen:(keysOf x).length≤80:=by unfold keysOf;rw[List.length_append,List.length_map,List.length_map];omega
 have HLEN:=Lib.hid hlen;clear hlen
 have H0:=Lib.hid h0;have H1:=Lib.hid h1;have H2:=Lib.hid h2
 clear h0 h1 h2
 have hg0:Grow w (w.alloc (.cells #[.int .i64 x.tick,.int .i64 x.next,.int .i64 x.wallet,.slice a0 x.chans.length c0,.slice a1 x.htlcs.length c1,.slice a2 x.circles.length c2] 27)):=(Grow.refl _).alloc _ _
 have hb:BookAt (w.alloc (.cells #[.int .i64 x.tick,.int .i64 x.next,.int .i64 x.wallet,.slice a0 x.chans.length c0,.slice a1 x.htlcs.length c1,.slice a2 x.circles.length c2] 27)) w.heap.size x a0 c0 a1 c1 a2 c2:=BookAt.new x a0 c0 a1 c1 a2 c2 w
 have HB:=Lib.hid hb;have HG0:=Lib.hid hg0
 clear hb hg0
 go_enter Try.func60,Try.ntmps60
 go_wp2
 obtain⟨W,hW⟩:∃W,W=w.alloc (.cells #[.int .i64 x.tick,.int .i64 x.next,.int .i64 x.wallet,.slice a0 x.chans.length c0,.slice a1 x.htlcs.length c1,.slice a2 x.circles.length c2] 27):=⟨_,rfl⟩
 rw[←hW]at HB HG0 ⊢
 clear hW
 go_loopg [13] x.htlcs.length (fun g i wr=>∃k:Nat,k+g=x.htlcs.length∧i=.int .i64 k∧(x.htlcs.take k).all (hOk x.chans)=true∧Grow W wr)
 case atStart=>exact⟨0,by simp,rfl,by simp,Grow.refl _⟩
 case round=>
  obtain⟨k,hk,rfl,hall,hg⟩:=hrel
  have HALL:=Lib.hid hall;clear hall
  by_cases hlt:k<x.htlcs.length
  ·obtain⟨b,off,rfl,hb1,hb2,hel⟩:=H1.out.elems k hlt
   obtain⟨e0,e1,e2,e3,e4,e5,e6,_⟩:=Htlc.atCell (hel.same repHtlc_stable ((HG0.out.trans hg).same (Nat.le_refl _)) hb1 hb2) k hlt
   obtain⟨k0,k1,k2,k3,k4,k5⟩:=HB.out.grow hg
   have hzw:w.heap.size<wr.heap.size:=lt_of_cell k0
   have hz0':b<wr.heap.size:=by have:=(HG0.out.trans hg).size;omega
   have HE:Hid (hOk x.chans x.htlcs[k]=false→partsOk x=false):=fun h=>by
    unfold partsOk;rw[all_false_of hlt h];simp
   have HT:Hid ((x.htlcs.take (k+1)).all (hOk x.chans)=((x.htlcs.take k).all (hOk x.chans)&&hOk x.chans x.htlcs[k])):=all_take_succ hlt
   have HG:=Lib.hid hg;have HK:=Lib.hid hk
   clear hg hk hel
   generalize x.htlcs[k]=e at *
   by_cases hok:hOk x.chans e=true
   ·obtain⟨d1,d2,d3,d4,d5⟩:=hOk_iff.1 hok
    have d6:amtOk e.amtOut=true:=by have:=amtOk_true.1 d1;exact amtOk_true.2 ⟨by omega,by omega⟩
    have HOK:=Lib.hid hok;clear hok
    go_wp2_with (first
     |(go_at_call 46;refine(spec_AmtOk_c _ _).mono ?_;rintro e w' ⟨rfl,rfl⟩)
     |(go_at_call 45;refine(spec_Two_c x _ _ _ _ _ _ _ _ _ (H0.out.grow' repChan_stable ((HG0.out.trans HG.out).alloc _ _).below) hn).mono ?_;rintro e wc ⟨rfl,gc⟩
       have kc0:wc.cell? ⟨wr.heap.size,0,none⟩=some (.int .i64 e.key):=cellGrow gc (cell_new 0 rfl)
       have kc1:wc.cell? ⟨wr.heap.size,1,none⟩=some (.int .i64 e.inn):=cellGrow gc (cell_new 1 rfl)
       have kc2:wc.cell? ⟨wr.heap.size,2,none⟩=some (.int .i64 e.out):=cellGrow gc (cell_new 2 rfl)
       have kc3:wc.cell? ⟨wr.heap.size,3,none⟩=some (.int .i64 e.amtIn):=cellGrow gc (cell_new 3 rfl)
       have kc4:wc.cell? ⟨wr.heap.size,4,none⟩=some (.int .i64 e.amtOut):=cellGrow gc (cell_new 4 rfl)
       have kc5:wc.cell? ⟨wr.heap.size,5,none⟩=some (.bool e.kept):=cellGrow gc (cell_new 5 rfl)
       have kc6:wc.cell? ⟨wr.heap.size,6,none⟩=some (.int .i64 e.age):=cellGrow gc (cell_new 6 rfl)
       have hgc:=(HG.out.alloc _ _).trans gc
       have HGC:=Lib.hid hgc;clear hgc gc))
    go_roundg (x.htlcs.length-(k+1))
    case measure=>have:=HK.out;omega
    case rel=>exact⟨k+1,by have:=HK.out;omega,by go_num,by rw[HT.out,HALL.out,HOK.out];rfl,HGC.out⟩
   ·have hr:=HE.out (by simpa using hok)
    have HR:=Lib.hid hr;have HOK:=Lib.hid hok;clear hr hok
    cases d5:two x.chans e.inn e.out<;>cases d4:amtOk e.age
    all_goals
     go_wp2_with (first
      |(go_at_call 46;refine(spec_AmtOk_c _ _).mono ?_;rintro e w' ⟨rfl,rfl⟩)
      |(go_at_call 45;refine(spec_Two_c x _ _ _ _ _ _ _ _ _ (H0.out.grow' repChan_stable ((HG0.out.trans HG.out).alloc _ _).below) hn).mono ?_;rintro e wc ⟨rfl,gc⟩
        have kc0:wc.cell? ⟨wr.heap.size,0,none⟩=some (.int .i64 e.key):=cellGrow gc (cell_new 0 rfl)
        have kc1:wc.cell? ⟨wr.heap.size,1,none⟩=some (.int .i64 e.inn):=cellGrow gc (cell_new 1 rfl)
        have kc2:wc.cell? ⟨wr.heap.size,2,none⟩=some (.int .i64 e.out):=cellGrow gc (cell_new 2 rfl)
        have kc3:wc.cell? ⟨wr.heap.size,3,none⟩=some (.int .i64 e.amtIn):=cellGrow gc (cell_new 3 rfl)
        have kc4:wc.cell? ⟨wr.heap.size,4,none⟩=some (.int .i64 e.amtOut):=cellGrow gc (cell_new 4 rfl)
        have kc5:wc.cell? ⟨wr.heap.size,5,none⟩=some (.bool e.kept):=cellGrow gc (cell_new 5 rfl)
        have kc6:wc.cell? ⟨wr.heap.size,6,none⟩=some (.int .i64 e.age):=cellGrow gc (cell_new 6 rfl)
        have hgc:=(HG.out.alloc _ _).trans gc
        have HGC:=Lib.hid hgc;clear hgc gc))
     all_goals first
      |(go_ret
        exact⟨by rw[HR.out];rfl,HG0.out.trans HGC.out⟩)
      |(exfalso;exact HOK.out (hOk_iff.2 ⟨by assumption,by omega,by omega,by assumption,by assumption⟩))
  ·have hke:k=x.htlcs.length:=by omega
   have HAH:=HALL.out
   rw[hke,List.take_length]at HAH
   obtain⟨k0,k1,k2,k3,k4,k5⟩:=HB.out.grow hg
   have HGA:=Lib.hid hg;have HAH':=Lib.hid HAH
   clear hke hk hg HAH HALL
   go_wp2
   clear k0 k1 k2 k3 k4 k5
   go_loopg [58] x.circles.length (fun g i wr=>∃k:Nat,k+g=x.circles.length∧i=.int .i64 k∧(x.circles.take k).all (cOk x.chans)=true∧Grow W wr)
   case atStart=>exact⟨0,by simp,rfl,by simp,HGA.out⟩
   case round=>
    obtain⟨k,hk,rfl,hall,hg⟩:=hrel
    have HALL:=Lib.hid hall;clear hall
    by_cases hlt:k<x.circles.length
    ·obtain⟨b,off,rfl,hb1,hb2,hel⟩:=H2.out.elems k hlt
     obtain⟨e0,e1,e2,e3,e4,_⟩:=Circle.atCell (hel.same repCircle_stable ((HG0.out.trans hg).same (Nat.le_refl _)) hb1 hb2) k hlt
     obtain⟨k0,k1,k2,k3,k4,k5⟩:=HB.out.grow hg
     have hzw:w.heap.size<wr.heap.size:=lt_of_cell k0
     have hz0':b<wr.heap.size:=by have:=(HG0.out.trans hg).size;omega
     have HE:Hid (cOk x.chans x.circles[k]=false→partsOk x=false):=fun h=>by
      unfold partsOk;rw[all_false_of hlt h];simp
     have HT:Hid ((x.circles.take (k+1)).all (cOk x.chans)=((x.circles.take k).all (cOk x.chans)&&cOk x.chans x.circles[k])):=all_take_succ hlt
     have HG:=Lib.hid hg;have HK:=Lib.hid hk
     clear hg hk hel
     generalize x.circles[k]=e at *
     by_cases hok:cOk x.chans e=true
     ·obtain⟨d1,d2,d3,d5⟩:=cOk_iff.1 hok
      have HOK:=Lib.hid hok;clear hok
      go_wp2_with (first
       |(go_at_call 46;refine(spec_AmtOk_c _ _).mono ?_;rintro e w' ⟨rfl,rfl⟩)
       |(go_at_call 45;refine(spec_Two_c x _ _ _ _ _ _ _ _ _ (H0.out.grow' repChan_stable ((HG0.out.trans HG.out).alloc _ _).below) hn).mono ?_;rintro e wc ⟨rfl,gc⟩
         have kc0:wc.cell? ⟨wr.heap.size,0,none⟩=some (.int .i64 e.key):=cellGrow gc (cell_new 0 rfl)
         have kc1:wc.cell? ⟨wr.heap.size,1,none⟩=some (.int .i64 e.frm):=cellGrow gc (cell_new 1 rfl)
         have kc2:wc.cell? ⟨wr.heap.size,2,none⟩=some (.int .i64 e.to):=cellGrow gc (cell_new 2 rfl)
         have kc3:wc.cell? ⟨wr.heap.size,3,none⟩=some (.int .i64 e.amt):=cellGrow gc (cell_new 3 rfl)
         have kc4:wc.cell? ⟨wr.heap.size,4,none⟩=some (.int .i64 e.fee):=cellGrow gc (cell_new 4 rfl)
         have hgc:=(HG.out.alloc _ _).trans gc
         have HGC:=Lib.hid hgc;clear hgc gc))
      go_roundg (x.circles.length-(k+1))
      case measure=>have:=HK.out;omega
      case rel=>exact⟨k+1,by have:=HK.out;omega,by go_num,by rw[HT.out,HALL.out,HOK.out];rfl,HGC.out⟩
     ·have hr:=HE.out (by simpa using hok)
      have HR:=Lib.hid hr;have HOK:=Lib.hid hok;clear hr hok
      cases d5:two x.chans e.frm e.to<;>cases d4:amtOk e.fee
      all_goals
       go_wp2_with (first
        |(go_at_call 46;refine(spec_AmtOk_c _ _).mono ?_;rintro e w' ⟨rfl,rfl⟩)
        |(go_at_call 45;refine(spec_Two_c x _ _ _ _ _ _ _ _ _ (H0.out.grow' repChan_stable ((HG0.out.trans HG.out).alloc _ _).below) hn).mono ?_;rintro e wc ⟨rfl,gc⟩
          have kc0:wc.cell? ⟨wr.heap.size,0,none⟩=some (.int .i64 e.key):=cellGrow gc (cell_new 0 rfl)
          have kc1:wc.cell? ⟨wr.heap.size,1,none⟩=some (.int .i64 e.frm):=cellGrow gc (cell_new 1 rfl)
          have kc2:wc.cell? ⟨wr.heap.size,2,none⟩=some (.int .i64 e.to):=cellGrow gc (cell_new 2 rfl)
          have kc3:wc.cell? ⟨wr.heap.size,3,none⟩=some (.int .i64 e.amt):=cellGrow gc (cell_new 3 rfl)
          have kc4:wc.cell? ⟨wr.heap.size,4,none⟩=some (.int .i64 e.fee):=cellGrow gc (cell_new 4 rfl)
          have hgc:=(HG.out.alloc _ _).trans gc
          have HGC:=Lib.hid hgc;clear hgc gc))
       all_goals first
        |(go_ret
          exact⟨by rw[HR.out];rfl,HG0.out.trans HGC.out⟩)
        |(exfalso;exact HOK.out (cOk_iff.2 ⟨by assumption,by omega,by assumption,by assumption⟩))
    ·have hke:k=x.circles.length:=by omega
     have HAC:=HALL.out
     rw[hke,List.take_length]at HAC
     obtain⟨k0,k1,k2,k3,k4,k5⟩:=HB.out.grow hg
     have HNO:Hid (∀j,j<(keysOf x).length→keyAt (keysOf x) j=false→partsOk x=false):=fun j h1 h2=>by
      unfold partsOk;rw[keysOk_no h1 h2];simp
     have HYES:Hid ((∀j,j<(keysOf x).length→keyAt (keysOf x) j=true)→partsOk x=true):=fun h=>by
      unfold partsOk;rw[keysOk_yes h,HAH'.out,HAC];simp[nh,nc]
     have HG:=Lib.hid (HG0.out.trans hg)
     clear hke hk hg HAC HALL HAH' HGA
     go_wp2_with fail
     refine(spec_Keys_c x _ _ _ _ _ _ _ (H1.out.grow' repHtlc_stable HG.out.below) (H2.out.grow' repCircle_stable HG.out.below) nh nc).mono ?_
     rintro e V ⟨av,cv,rfl,gv,hsl⟩
     have HGV:=Lib.hid (HG.out.trans gv)
     have HSL:=Lib.hid hsl
     have hc1:(keysOf x).length≤cv:=by
      obtain⟨_,_,hq,hc1,_,_⟩:=hsl
      injection hq with _ _ q3
      omega
     clear hsl
     have hlen:=HLEN.out
     clear k0 k1 k2 k3 k4 k5 gv HG HG0 HB HLEN
     generalize keysOf x=K at *
     go_wp2
     go_loopg [91] K.length (fun g i wq=>∃k:Nat,k+g=K.length∧i=.int .i64 k∧(∀j,j<k→keyAt K j=true)∧wq=V)
     case atStart=>exact⟨0,by simp,rfl,fun j h=>absurd h (by omega),rfl⟩
     case round=>
      obtain⟨k,hk,rfl,hall,rfl⟩:=hrel
      have HALL:=Lib.hid hall;clear hall
      by_cases hlt:k<K.length
      ·obtain⟨b,off,rfl,hb1,hb2,hel⟩:=HSL.out.elems k hlt
       obtain⟨e0,_⟩:=Int.atCell hel k hlt
       have HKA:Hid (keyAt K k=(keyOk K[k]&&!hasI (K.take k) K[k])):=by
        show _=_
        unfold keyAt
        rw[List.getD_eq_getElem?_getD,List.getElem?_eq_getElem hlt];rfl
       have HK:=Lib.hid hk
       clear hk hel
       generalize K[k]=y at *
       have hkc:(k:Int)≤(cv:Int):=by omega
       by_cases u1:1≤y<;>by_cases u2:y≤1000000<;>cases q2:hasI (K.take k) y
       all_goals
        have HQ:Hid (keyOk y=(decide (1≤y)&&decide (y≤1000000))):=rfl
        have U1:=Lib.hid u1;have U2:=Lib.hid u2;have Q2:=Lib.hid q2
        go_wp2_with (first
         |(go_at_call 73;refine(hasTake2_c K _ cv k y _ _ _ HSL.out (by omega) (by omega)).mono ?_;rintro e w' ⟨rfl,rfl⟩))
        first
         |(go_ret
           exact⟨by rw[HNO.out k hlt (by rw[HKA.out,HQ.out,Q2.out];have:=U1.out;have:=U2.out;simp;try omega)];rfl,HGV.out⟩)
         |(go_roundg (K.length-(k+1))
           case measure=>have:=HK.out;omega
           case rel=>exact⟨k+1,by have:=HK.out;omega,by go_num,fun j hj=>by
            by_cases e:j=k
            ·subst e;rw[HKA.out,HQ.out,Q2.out];have:=U1.out;have:=U2.out;simp;omega
            ·exact HALL.out j (by omega),rfl⟩)
      ·have hr:partsOk x=true:=HYES.out (fun j hj=>HALL.out j (by omega))
       have HR:=Lib.hid hr;clear hr
       go_wp2
       go_ret
       exact⟨by rw[HR.out];rfl,HGV.out⟩
end Go.Proofs.Ytnlpbgljaecdmaa
namespace Go.Proofs.Ytnlpbgljaecdmaa
open Go.RowKit
set_option linter.unusedSimpArgs false
set_option linter.unusedVariables false
def scOk(n:Int):Bool:=inB n (-100) 100
def chanOk1(c:Chan):Bool:=chOk c.id&&amtOk c.loc&&amtOk c.remote&&amtOk c.base&&inB c.ppm 0 1000000&&scOk c.score&&amtOk c.size
def chanSum(x:Book)(c:Chan):Bool:=c.size==c.loc+c.remote+outOf x c.id+intoOf x c.id
def ascAt(l:List Chan)(i:Nat):Bool:=match i with|0=>true|j+1=>match l[j]?,l[j+1]? with|some a,some b=>decide (a.id<b.id)|_,_=>true
def chanAtOk(x:Book)(i:Nat):Bool:=match x.chans[i]? with|some c=>chanOk1 c&&ascAt x.chans i&&chanSum x c|none=>true
def chansOk(x:Book):Bool:=(List.range x.chans.length).all (chanAtOk x)
def bookOk(x:Book):Bool:=amtOk x.tick&&amtOk x.wallet&&inB x.next 1 1125899906842624&&decide (x.chans.length≤20)&&partsOk x&&chansOk x
theorem chansOk_no{x:Book}{k:Nat}(hk:k<x.chans.length)(h:chanAtOk x k=false):chansOk x=false:=by
 unfold chansOk;rw[List.all_eq_false];exact⟨k,by simpa using hk,by simp[h]⟩
theorem chansOk_yes{x:Book}(h:∀j,j<x.chans.length→chanAtOk x j=true):chansOk x=true:=by
 unfold chansOk;rw[List.all_eq_true];intro j hj;exact h j (by simpa using hj)
theorem Small.of_parts{x:Book}(h:partsOk x=true):Small x:=by
 unfold partsOk at h
 simp only[Bool.and_eq_true,decide_eq_true_eq,List.all_eq_true]at h
 obtain⟨⟨⟨⟨h1,h2⟩,h3⟩,h4⟩,_⟩:=h
 refine⟨h1,h2,fun e he=>?_,fun e he=>?_⟩
 ·obtain⟨d1,d2,d3,_,_⟩:=hOk_iff.1 (h3 e he)
  have:=amtOk_true.1 d1
  omega
 ·obtain⟨d1,d2,d3,_⟩:=cOk_iff.1 (h4 e he)
  have:=amtOk_true.1 d1
  have:=amtOk_true.1 d3
  omega
theorem impl_scOk_c(n:Int)(w:World):Calls Try.prog 53 #[.int .i64 n] w fun e w'=>e=.returned (.bool (scOk n))∧w=w':=by
 go_enter Try.func53,Try.ntmps53
 go_wp2_with (go_at_call 16;refine(in_c _ _ _ _).mono ?_;rintro e w' ⟨rfl,rfl⟩)
 go_ret
 exact⟨rfl,rfl⟩
theorem spec_scOk_c(n:Int)(w:World):Calls Try.prog 61 #[.int .i64 n] w fun e w'=>e=.returned (.bool (scOk n))∧w=w':=by
 unfold scOk inB
 by_cases h1:-100≤n<;>by_cases h2:n≤100
 all_goals
  go_enter Try.func61,Try.ntmps61
  go_wp2
  go_ret
  exact⟨by simp[h1,h2],rfl⟩
theorem impl_AmtOk_q(n:Int)(w:World):Calls Try.prog 34 #[.int .i64 n] w fun e w'=>e=.returned (.bool (amtOk n))∧w'=w:=(impl_AmtOk_c n w).mono fun _ _ h=>⟨h.1,h.2.symm⟩
theorem spec_AmtOk_q(n:Int)(w:World):Calls Try.prog 46 #[.int .i64 n] w fun e w'=>e=.returned (.bool (amtOk n))∧w'=w:=(spec_AmtOk_c n w).mono fun _ _ h=>⟨h.1,h.2.symm⟩
theorem impl_scOk_q(n:Int)(w:World):Calls Try.prog 53 #[.int .i64 n] w fun e w'=>e=.returned (.bool (scOk n))∧w'=w:=(impl_scOk_c n w).mono fun _ _ h=>⟨h.1,h.2.symm⟩
theorem spec_scOk_q(n:Int)(w:World):Calls Try.prog 61 #[.int .i64 n] w fun e w'=>e=.returned (.bool (scOk n))∧w'=w:=(spec_scOk_c n w).mono fun _ _ h=>⟨h.1,h.2.symm⟩
theorem isChan_q(n:Int)(w:World):Calls Try.prog 52 #[.int .i64 n] w fun e w'=>e=.returned (.bool (chOk n))∧w'=w:=(isChan_c n w).mono fun _ _ h=>⟨h.1,h.2.symm⟩
end Go.Proofs.Ytnlpbgljaecdmaa
namespace Go.Proofs.Ytnlpbgljaecdmaa
open Go.RowKit
set_option maxHeartbeats 16000000
set_option maxRecDepth 100000
set_option linter.unusedSimpArgs false
set_option linter.unusedVariables false
theorem sums_le{x:Book}(s:Small x)(ch:Int):0≤outOf x ch∧outOf x ch≤112589990684262400∧0≤intoOf x ch∧intoOf x ch≤112589990684262400:=by
 have a:=tot_lim 60 (by omega) (s.hOut ch) s.nh x.htlcs.length
 have b:=tot_lim 60 (by omega) (s.hIn ch) s.nh x.htlcs.length
 have c:=tot_lim 20 (by omega) (s.cOut ch) s.nc x.circles.length
 have d:=tot_lim 20 (by omega) (s.cIn ch) s.nc x.circles.length
 rw[List.take_length]at a b c d
 unfold outOf intoOf
 omega
theorem impl_BookOk_c(x:Book)(a0:Option Addr)(c0:Nat)(a1:Option Addr)(c1:Nat)(a2:Option Addr)(c2:Nat)(w:World)(h0:SlR 7 repChan w 0 w.heap.size (.slice a0 x.chans.length c0) x.chans)(h1:SlR 7 repHtlc w 0 w.heap.size (.slice a1 x.htlcs.length c1) x.htlcs)(h2:SlR 5 repCircle w 0 w.heap.size (.slice a2 x.circles.length c2) x.circles)(hn:x.chans.length≤1048576) :
 Calls Try.prog 33 #[.agg #[.int .i64 x.tick,.int .i64 x.next,.int .i64 x.wallet,.slice a0 x.chans.length c0,.slice a1 x.htlcs.length c1,.slice a2 x.circles.length c2]] w fun e w'=>e=.returned (.bool (bookOk x))∧Grow w w':=by
 have hg0:Grow w (w.alloc (.cells #[.int .i64 x.tick,.int .i64 x.next,.int .i64 x.wallet,.slice a0 x.chans.length c0,.slice a1 x.htlcs.length c1,.slice a2 x.circles.length c2] 27)):=(Grow.refl _).alloc _ _
 have hb:BookAt (w.alloc (.cells #[.int .i64 x.tick,.int .i64 x.next,.int .i64 x.wallet,.slice a0 x.chans.length c0,.slice a1 x.htlcs.length c1,.slice a2 x.circles.length c2] 27)) w.heap.size x a0 c0 a1 c1 a2 c2:=BookAt.new x a0 c0 a1 c1 a2 c2 w
 have HB:=Lib.hid hb;have HG0:=Lib.hid hg0
 clear hb hg0
 have H0:=Lib.hid h0;have H1:=Lib.hid h1;have H2:=Lib.hid h2
 clear h0 h1 h2
 have HP:Hid (bookOk x=(amtOk x.tick&&amtOk x.wallet&&inB x.next 1 1125899906842624&&decide (x.chans.length≤20)&&partsOk x&&chansOk x)):=rfl
 by_cases c1:amtOk x.tick=true
 rotate_left
 ·have HR:Hid (bookOk x=false):=by
   show _=_
   rw[HP.out];simp[c1]
  have c1:amtOk x.tick=false:=by simpa using c1
  go_enter Try.func33,Try.ntmps33
  go_wp2_with (first
   |(go_at_call 34;refine(impl_AmtOk_c _ _).mono ?_;rintro e w' ⟨rfl,rfl⟩)
   |(go_at_call 16;refine(in_c _ _ _ _).mono ?_;rintro e w' ⟨rfl,rfl⟩)
   |(go_at_call 51;refine(impl_partsOk_c x _ _ _ _ _ _ _ (H0.out.grow' repChan_stable HG0.out.below) (H1.out.grow' repHtlc_stable HG0.out.below) (H2.out.grow' repCircle_stable HG0.out.below) hn).mono ?_;rintro e wp ⟨rfl,gp⟩
     have HGP:=Lib.hid gp;have bp:=HB.out.grow gp;have HBP:=Lib.hid bp;obtain⟨kp0,kp1,kp2,kp3,kp4,kp5⟩:=bp;clear gp))
  all_goals first
   |(go_ret
     exact⟨by rw[HR.out];rfl,HG0.out.trans HGP.out⟩)
   |(go_ret
     exact⟨by rw[HR.out];rfl,HG0.out⟩)
 by_cases c2:amtOk x.wallet=true
 rotate_left
 ·have HR:Hid (bookOk x=false):=by
   show _=_
   rw[HP.out];simp[c2]
  have c2:amtOk x.wallet=false:=by simpa using c2
  go_enter Try.func33,Try.ntmps33
  go_wp2_with (first
   |(go_at_call 34;refine(impl_AmtOk_c _ _).mono ?_;rintro e w' ⟨rfl,rfl⟩)
   |(go_at_call 16;refine(in_c _ _ _ _).mono ?_;rintro e w' ⟨rfl,rfl⟩)
   |(go_at_call 51;refine(impl_partsOk_c x _ _ _ _ _ _ _ (H0.out.grow' repChan_stable HG0.out.below) (H1.out.grow' repHtlc_stable HG0.out.below) (H2.out.grow' repCircle_stable HG0.out.below) hn).mono ?_;rintro e wp ⟨rfl,gp⟩
     have HGP:=Lib.hid gp;have bp:=HB.out.grow gp;have HBP:=Lib.hid bp;obtain⟨kp0,kp1,kp2,kp3,kp4,kp5⟩:=bp;clear gp))
  all_goals first
   |(go_ret
     exact⟨by rw[HR.out];rfl,HG0.out.trans HGP.out⟩)
   |(go_ret
     exact⟨by rw[HR.out];rfl,HG0.out⟩)
 by_cases c3:inB x.next 1 1125899906842624=true
 rotate_left
 ·have HR:Hid (bookOk x=false):=by
   show _=_
   rw[HP.out];simp[c3]
  have c3:inB x.next 1 1125899906842624=false:=by simpa using c3
  go_enter Try.func33,Try.ntmps33
  go_wp2_with (first
   |(go_at_call 34;refine(impl_AmtOk_c _ _).mono ?_;rintro e w' ⟨rfl,rfl⟩)
   |(go_at_call 16;refine(in_c _ _ _ _).mono ?_;rintro e w' ⟨rfl,rfl⟩)
   |(go_at_call 51;refine(impl_partsOk_c x _ _ _ _ _ _ _ (H0.out.grow' repChan_stable HG0.out.below) (H1.out.grow' repHtlc_stable HG0.out.below) (H2.out.grow' repCircle_stable HG0.out.below) hn).mono ?_;rintro e wp ⟨rfl,gp⟩
     have HGP:=Lib.hid gp;have bp:=HB.out.grow gp;have HBP:=Lib.hid bp;obtain⟨kp0,kp1,kp2,kp3,kp4,kp5⟩:=bp;clear gp))
  all_goals first
   |(go_ret
     exact⟨by rw[HR.out];rfl,HG0.out.trans HGP.out⟩)
   |(go_ret
     exact⟨by rw[HR.out];rfl,HG0.out⟩)
 by_cases c4:x.chans.length≤20
 rotate_left
 ·have HR:Hid (bookOk x=false):=by
   show _=_
   rw[HP.out];simp[c4]
  have q4:decide ((20:Int)<(x.chans.length:Int))=true:=by simp;omega
  go_enter Try.func33,Try.ntmps33
  go_wp2_with (first
   |(go_at_call 34;refine(impl_AmtOk_c _ _).mono ?_;rintro e w' ⟨rfl,rfl⟩)
   |(go_at_call 16;refine(in_c _ _ _ _).mono ?_;rintro e w' ⟨rfl,rfl⟩)
   |(go_at_call 51;refine(impl_partsOk_c x _ _ _ _ _ _ _ (H0.out.grow' repChan_stable HG0.out.below) (H1.out.grow' repHtlc_stable HG0.out.below) (H2.out.grow' repCircle_stable HG0.out.below) hn).mono ?_;rintro e wp ⟨rfl,gp⟩
     have HGP:=Lib.hid gp;have bp:=HB.out.grow gp;have HBP:=Lib.hid bp;obtain⟨kp0,kp1,kp2,kp3,kp4,kp5⟩:=bp;clear gp))
  all_goals first
   |(go_ret
     exact⟨by rw[HR.out];rfl,HG0.out.trans HGP.out⟩)
   |(go_ret
     exact⟨by rw[HR.out];rfl,HG0.out⟩)
 have q4:decide ((20:Int)<(x.chans.length:Int))=false:=by simp;omega
 by_cases c5:partsOk x=true
 rotate_left
 ·have HR:Hid (bookOk x=false):=by
   show _=_
   rw[HP.out];simp[c5]
  have c5:partsOk x=false:=by simpa using c5
  go_enter Try.func33,Try.ntmps33
  go_wp2_with (first
   |(go_at_call 34;refine(impl_AmtOk_c _ _).mono ?_;rintro e w' ⟨rfl,rfl⟩)
   |(go_at_call 16;refine(in_c _ _ _ _).mono ?_;rintro e w' ⟨rfl,rfl⟩)
   |(go_at_call 51;refine(impl_partsOk_c x _ _ _ _ _ _ _ (H0.out.grow' repChan_stable HG0.out.below) (H1.out.grow' repHtlc_stable HG0.out.below) (H2.out.grow' repCircle_stable HG0.out.below) hn).mono ?_;rintro e wp ⟨rfl,gp⟩
     have HGP:=Lib.hid gp;have bp:=HB.out.grow gp;have HBP:=Lib.hid bp;obtain⟨kp0,kp1,kp2,kp3,kp4,kp5⟩:=bp;clear gp))
  all_goals first
   |(go_ret
     exact⟨by rw[HR.out];rfl,HG0.out.trans HGP.out⟩)
   |(go_ret
     exact⟨by rw[HR.out];rfl,HG0.out⟩)
 have SM:=Lib.hid (Small.of_parts c5)
 go_enter Try.func33,Try.ntmps33
 go_wp2_with (first
  |(go_at_call 34;refine(impl_AmtOk_c _ _).mono ?_;rintro e w' ⟨rfl,rfl⟩)
  |(go_at_call 16;refine(in_c _ _ _ _).mono ?_;rintro e w' ⟨rfl,rfl⟩)
  |(go_at_call 51;refine(impl_partsOk_c x _ _ _ _ _ _ _ (H0.out.grow' repChan_stable HG0.out.below) (H1.out.grow' repHtlc_stable HG0.out.below) (H2.out.grow' repCircle_stable HG0.out.below) hn).mono ?_;rintro e wp ⟨rfl,gp⟩
    have HGP:=Lib.hid gp;have bp:=HB.out.grow gp;have HBP:=Lib.hid bp;obtain⟨kp0,kp1,kp2,kp3,kp4,kp5⟩:=bp;clear gp))
 clear kp0 kp1 kp2 kp3 kp4 kp5
 have HHEAD:Hid (bookOk x=chansOk x):=by
  show _=_
  rw[HP.out];simp[c1,c2,c3,c4,c5]
 go_loopg [37] x.chans.length (fun g i wr=>∃k:Nat,k+g=x.chans.length∧i=.int .i64 k∧(∀j,j<k→chanAtOk x j=true)∧Grow wp wr)
 case atStart=>exact⟨0,by simp,rfl,fun j h=>absurd h (by omega),Grow.refl _⟩
 case round=>
  obtain⟨k,hk,rfl,hall,hg⟩:=hrel
  have HALL:=Lib.hid hall;clear hall
  have hgw:=(HG0.out.trans HGP.out).trans hg
  by_cases hlt:k<x.chans.length
  ·have HEL:=Lib.hid (H0.out.elems k hlt)
   obtain⟨b,off,ha,hb1,hb2,hel⟩:=HEL.out
   obtain⟨e0,e1,e2,e3,e4,e5,e6,_⟩:=Chan.atCell (hel.same repChan_stable (hgw.same (Nat.le_refl _)) hb1 hb2) k hlt
   subst ha
   have hgs:=hg.size
   have HG:=Lib.hid hg;have HGW:=Lib.hid hgw;have HK:=Lib.hid hk
   clear hg hgw hk hel
   have HCA:Hid (chanAtOk x k=(chanOk1 x.chans[k]&&ascAt x.chans k&&chanSum x x.chans[k])):=by
    show _=_
    unfold chanAtOk;rw[List.getElem?_eq_getElem hlt]
   have HPREV:Hid (∀j (h:j<x.chans.length),k=j+1→ascAt x.chans k=decide (x.chans[j].id<x.chans[k].id)∧wp.heap.size≤wr.heap.size):=fun j h he=>by
    subst he
    refine⟨?_,hgs⟩
    unfold ascAt
    simp[List.getElem?_eq_getElem h,List.getElem?_eq_getElem hlt]
   generalize x.chans[k]=e at *
   go_wp2_with fail
   obtain⟨V,hV⟩:∃V,V=wr.alloc (.cells #[.int .i64 e.id,.int .i64 e.size,.int .i64 e.loc,.int .i64 e.remote,.int .i64 e.base,.int .i64 e.ppm,.int .i64 e.score] 57):=⟨_,rfl⟩
   have gV:Grow wr V:=by rw[hV];exact(Grow.refl _).alloc _ _
   have v0:V.cell? ⟨wr.heap.size,0,none⟩=some (.int .i64 e.id):=by rw[hV];exact cell_new 0 rfl
   have v1:V.cell? ⟨wr.heap.size,1,none⟩=some (.int .i64 e.size):=by rw[hV];exact cell_new 1 rfl
   have v2:V.cell? ⟨wr.heap.size,2,none⟩=some (.int .i64 e.loc):=by rw[hV];exact cell_new 2 rfl
   have v3:V.cell? ⟨wr.heap.size,3,none⟩=some (.int .i64 e.remote):=by rw[hV];exact cell_new 3 rfl
   have v4:V.cell? ⟨wr.heap.size,4,none⟩=some (.int .i64 e.base):=by rw[hV];exact cell_new 4 rfl
   have v5:V.cell? ⟨wr.heap.size,5,none⟩=some (.int .i64 e.ppm):=by rw[hV];exact cell_new 5 rfl
   have v6:V.cell? ⟨wr.heap.size,6,none⟩=some (.int .i64 e.score):=by rw[hV];exact cell_new 6 rfl
   obtain⟨k0,k1,k2,k3,k4,k5⟩:=HB.out.grow ((HGP.out.trans HG.out).trans gV)
   rw[←hV]
   clear hV e0 e1 e2 e3 e4 e5 e6
   have HGV:=Lib.hid gV;clear gV
   have HNO:Hid (chanAtOk x k=false→chansOk x=false):=fun h=>chansOk_no hlt h
   rcases k with _|j
   ·have HCA:Hid (chanAtOk x 0=(chanOk1 e&&true&&chanSum x e)):=HCA
    by_cases t1:chOk e.id=true
    rotate_left
    ·have t1:chOk e.id=false:=by simpa using t1
     have HR:Hid (bookOk x=false):=by
      show _=_
      rw[HHEAD.out];exact HNO.out (by rw[HCA.out];simp[chanOk1,t1])
     go_quiet (first
      |(go_at_call 52;exact Calls.quiet_of_same (isChan_q _ _))
      |(go_at_call 34;exact Calls.quiet_of_same (impl_AmtOk_q _ _))
      |(go_at_call 16;exact Calls.quiet_of_same (in_q _ _ _ _))
      |(go_at_call 53;exact Calls.quiet_of_same (impl_scOk_q _ _)))
     go_wp2_with fail
     go_ret
     exact⟨by rw[HR.out];rfl,HGW.out.trans (HGV.out.drewN _)⟩
    by_cases t3:amtOk e.loc=true
    rotate_left
    ·have t3:amtOk e.loc=false:=by simpa using t3
     have HR:Hid (bookOk x=false):=by
      show _=_
      rw[HHEAD.out];exact HNO.out (by rw[HCA.out];simp[chanOk1,t3])
     go_quiet (first
      |(go_at_call 52;exact Calls.quiet_of_same (isChan_q _ _))
      |(go_at_call 34;exact Calls.quiet_of_same (impl_AmtOk_q _ _))
      |(go_at_call 16;exact Calls.quiet_of_same (in_q _ _ _ _))
      |(go_at_call 53;exact Calls.quiet_of_same (impl_scOk_q _ _)))
     go_wp2_with fail
     go_ret
     exact⟨by rw[HR.out];rfl,HGW.out.trans (HGV.out.drewN _)⟩
    by_cases t4:amtOk e.remote=true
    rotate_left
    ·have t4:amtOk e.remote=false:=by simpa using t4
     have HR:Hid (bookOk x=false):=by
      show _=_
      rw[HHEAD.out];exact HNO.out (by rw[HCA.out];simp[chanOk1,t4])
     go_quiet (first
      |(go_at_call 52;exact Calls.quiet_of_same (isChan_q _ _))
      |(go_at_call 34;exact Calls.quiet_of_same (impl_AmtOk_q _ _))
      |(go_at_call 16;exact Calls.quiet_of_same (in_q _ _ _ _))
      |(go_at_call 53;exact Calls.quiet_of_same (impl_scOk_q _ _)))
     go_wp2_with fail
     go_ret
     exact⟨by rw[HR.out];rfl,HGW.out.trans (HGV.out.drewN _)⟩
    by_cases t5:amtOk e.base=true
    rotate_left
    ·have t5:amtOk e.base=false:=by simpa using t5
     have HR:Hid (bookOk x=false):=by
      show _=_
      rw[HHEAD.out];exact HNO.out (by rw[HCA.out];simp[chanOk1,t5])
     go_quiet (first
      |(go_at_call 52;exact Calls.quiet_of_same (isChan_q _ _))
      |(go_at_call 34;exact Calls.quiet_of_same (impl_AmtOk_q _ _))
      |(go_at_call 16;exact Calls.quiet_of_same (in_q _ _ _ _))
      |(go_at_call 53;exact Calls.quiet_of_same (impl_scOk_q _ _)))
     go_wp2_with fail
     go_ret
     exact⟨by rw[HR.out];rfl,HGW.out.trans (HGV.out.drewN _)⟩
    by_cases t6:inB e.ppm 0 1000000=true
    rotate_left
    ·have t6:inB e.ppm 0 1000000=false:=by simpa using t6
     have HR:Hid (bookOk x=false):=by
      show _=_
      rw[HHEAD.out];exact HNO.out (by rw[HCA.out];simp[chanOk1,t6])
     go_quiet (first
      |(go_at_call 52;exact Calls.quiet_of_same (isChan_q _ _))
      |(go_at_call 34;exact Calls.quiet_of_same (impl_AmtOk_q _ _))
      |(go_at_call 16;exact Calls.quiet_of_same (in_q _ _ _ _))
      |(go_at_call 53;exact Calls.quiet_of_same (impl_scOk_q _ _)))
     go_wp2_with fail
     go_ret
     exact⟨by rw[HR.out];rfl,HGW.out.trans (HGV.out.drewN _)⟩
    by_cases t7:scOk e.score=true
    rotate_left
    ·have t7:scOk e.score=false:=by simpa using t7
     have HR:Hid (bookOk x=false):=by
      show _=_
      rw[HHEAD.out];exact HNO.out (by rw[HCA.out];simp[chanOk1,t7])
     go_quiet (first
      |(go_at_call 52;exact Calls.quiet_of_same (isChan_q _ _))
      |(go_at_call 34;exact Calls.quiet_of_same (impl_AmtOk_q _ _))
      |(go_at_call 16;exact Calls.quiet_of_same (in_q _ _ _ _))
      |(go_at_call 53;exact Calls.quiet_of_same (impl_scOk_q _ _)))
     go_wp2_with fail
     go_ret
     exact⟨by rw[HR.out];rfl,HGW.out.trans (HGV.out.drewN _)⟩
    by_cases t8:amtOk e.size=true
    rotate_left
    ·have t8:amtOk e.size=false:=by simpa using t8
     have HR:Hid (bookOk x=false):=by
      show _=_
      rw[HHEAD.out];exact HNO.out (by rw[HCA.out];simp[chanOk1,t8])
     go_quiet (first
      |(go_at_call 52;exact Calls.quiet_of_same (isChan_q _ _))
      |(go_at_call 34;exact Calls.quiet_of_same (impl_AmtOk_q _ _))
      |(go_at_call 16;exact Calls.quiet_of_same (in_q _ _ _ _))
      |(go_at_call 53;exact Calls.quiet_of_same (impl_scOk_q _ _)))
     go_wp2_with fail
     go_ret
     exact⟨by rw[HR.out];rfl,HGW.out.trans (HGV.out.drewN _)⟩
    go_quiet (first
     |(go_at_call 52;exact Calls.quiet_of_same (isChan_q _ _))
     |(go_at_call 34;exact Calls.quiet_of_same (impl_AmtOk_q _ _))
     |(go_at_call 16;exact Calls.quiet_of_same (in_q _ _ _ _))
     |(go_at_call 53;exact Calls.quiet_of_same (impl_scOk_q _ _)))
    go_wp2_with fail
    have HGN:=Lib.hid (HGW.out.trans (HGV.out.drewN nq))
    refine(transit_c x _ _ _ _ _ _ e.id _ (H1.out.grow' repHtlc_stable HGN.out.below) (H2.out.grow' repCircle_stable HGN.out.below) SM.out).mono ?_
    rintro e' w9 ⟨rfl,g9⟩
    have y0:w9.cell? ⟨wr.heap.size,0,none⟩=some (.int .i64 e.id):=cellGrow (w:=V.drewN nq) g9 v0
    have y1:w9.cell? ⟨wr.heap.size,1,none⟩=some (.int .i64 e.size):=cellGrow (w:=V.drewN nq) g9 v1
    have y2:w9.cell? ⟨wr.heap.size,2,none⟩=some (.int .i64 e.loc):=cellGrow (w:=V.drewN nq) g9 v2
    have y3:w9.cell? ⟨wr.heap.size,3,none⟩=some (.int .i64 e.remote):=cellGrow (w:=V.drewN nq) g9 v3
    have y4:w9.cell? ⟨wr.heap.size,4,none⟩=some (.int .i64 e.base):=cellGrow (w:=V.drewN nq) g9 v4
    have y5:w9.cell? ⟨wr.heap.size,5,none⟩=some (.int .i64 e.ppm):=cellGrow (w:=V.drewN nq) g9 v5
    have y6:w9.cell? ⟨wr.heap.size,6,none⟩=some (.int .i64 e.score):=cellGrow (w:=V.drewN nq) g9 v6
    have HG9:=Lib.hid (HGN.out.trans g9)
    have HG9':=Lib.hid ((HG.out.trans (HGV.out.drewN nq)).trans g9)
    have b3:=amtOk_true.1 t3
    have b4:=amtOk_true.1 t4
    obtain⟨o1,o2,o3,o4⟩:=sums_le SM.out e.id
    have HCS:Hid (chanSum x e=(e.size==e.loc+e.remote+outOf x e.id+intoOf x e.id)):=rfl
    clear v0 v1 v2 v3 v4 v5 v6 k0 k1 k2 k3 k4 k5 g9
    generalize outOf x e.id=po at *
    generalize intoOf x e.id=pi at *
    by_cases ts:e.size=e.loc+e.remote+po+pi
    ·have TS:=Lib.hid ts
     go_wp2
     go_roundg (x.chans.length-(0+1))
     case measure=>have:=HK.out;omega
     case rel=>exact⟨0+1,by have:=HK.out;omega,by go_num,fun i hi=>by
      by_cases he:i=0
      ·have h8:=t8;rw[TS.out]at h8;rw[he,HCA.out,HCS.out];simp[chanOk1,TS.out,t1,t3,t4,t5,t6,t7,h8]
      ·exact HALL.out i (by omega),HG9'.out⟩
    ·have TS:=Lib.hid ts
     go_wp2
     go_ret
     exact⟨by rw[HHEAD.out,HNO.out (by rw[HCA.out,HCS.out];simp[TS.out])];rfl,HG9.out⟩
   ·have hj:j<x.chans.length:=by omega
    obtain⟨b_,off_,ha_,_,_,hel⟩:=HEL.out
    injection ha_ with ha_
    injection ha_ with qb qo
    subst qb qo
    have HASC:=Lib.hid (HPREV.out j hj rfl).1
    obtain⟨f0,_⟩:=Chan.atCell (hel.same repChan_stable ((HGW.out.trans HGV.out).same (Nat.le_refl _)) hb1 hb2) j hj
    clear hel
    generalize x.chans[j].id=p at *
    have ej:((j+1:Nat):Int)-1=(j:Int):=by omega
    by_cases t1:chOk e.id=true
    rotate_left
    ·have t1:chOk e.id=false:=by simpa using t1
     have HR:Hid (bookOk x=false):=by
      show _=_
      rw[HHEAD.out];exact HNO.out (by rw[HCA.out];simp[chanOk1,t1])
     go_quiet (first
      |(go_at_call 52;exact Calls.quiet_of_same (isChan_q _ _))
      |(go_at_call 34;exact Calls.quiet_of_same (impl_AmtOk_q _ _))
      |(go_at_call 16;exact Calls.quiet_of_same (in_q _ _ _ _))
      |(go_at_call 53;exact Calls.quiet_of_same (impl_scOk_q _ _)))
     go_wp2_with fail
     go_ret
     exact⟨by rw[HR.out];rfl,HGW.out.trans (HGV.out.drewN _)⟩
    by_cases t2:p<e.id
    rotate_left
    ·have q2:decide (e.id≤p)=true:=by simp;omega
     have HR:Hid (bookOk x=false):=by
      show _=_
      rw[HHEAD.out];exact HNO.out (by rw[HCA.out];simp[HASC.out,t2])
     go_quiet (first
      |(go_at_call 52;exact Calls.quiet_of_same (isChan_q _ _))
      |(go_at_call 34;exact Calls.quiet_of_same (impl_AmtOk_q _ _))
      |(go_at_call 16;exact Calls.quiet_of_same (in_q _ _ _ _))
      |(go_at_call 53;exact Calls.quiet_of_same (impl_scOk_q _ _)))
     go_wp2_with fail
     go_ret
     exact⟨by rw[HR.out];rfl,HGW.out.trans (HGV.out.drewN _)⟩
    have q2:decide (e.id≤p)=false:=by simp;omega
    by_cases t3:amtOk e.loc=true
    rotate_left
    ·have t3:amtOk e.loc=false:=by simpa using t3
     have HR:Hid (bookOk x=false):=by
      show _=_
      rw[HHEAD.out];exact HNO.out (by rw[HCA.out];simp[chanOk1,t3])
     go_quiet (first
      |(go_at_call 52;exact Calls.quiet_of_same (isChan_q _ _))
      |(go_at_call 34;exact Calls.quiet_of_same (impl_AmtOk_q _ _))
      |(go_at_call 16;exact Calls.quiet_of_same (in_q _ _ _ _))
      |(go_at_call 53;exact Calls.quiet_of_same (impl_scOk_q _ _)))
     go_wp2_with fail
     go_ret
     exact⟨by rw[HR.out];rfl,HGW.out.trans (HGV.out.drewN _)⟩
    by_cases t4:amtOk e.remote=true
    rotate_left
    ·have t4:amtOk e.remote=false:=by simpa using t4
     have HR:Hid (bookOk x=false):=by
      show _=_
      rw[HHEAD.out];exact HNO.out (by rw[HCA.out];simp[chanOk1,t4])
     go_quiet (first
      |(go_at_call 52;exact Calls.quiet_of_same (isChan_q _ _))
      |(go_at_call 34;exact Calls.quiet_of_same (impl_AmtOk_q _ _))
      |(go_at_call 16;exact Calls.quiet_of_same (in_q _ _ _ _))
      |(go_at_call 53;exact Calls.quiet_of_same (impl_scOk_q _ _)))
     go_wp2_with fail
     go_ret
     exact⟨by rw[HR.out];rfl,HGW.out.trans (HGV.out.drewN _)⟩
    by_cases t5:amtOk e.base=true
    rotate_left
    ·have t5:amtOk e.base=false:=by simpa using t5
     have HR:Hid (bookOk x=false):=by
      show _=_
      rw[HHEAD.out];exact HNO.out (by rw[HCA.out];simp[chanOk1,t5])
     go_quiet (first
      |(go_at_call 52;exact Calls.quiet_of_same (isChan_q _ _))
      |(go_at_call 34;exact Calls.quiet_of_same (impl_AmtOk_q _ _))
      |(go_at_call 16;exact Calls.quiet_of_same (in_q _ _ _ _))
      |(go_at_call 53;exact Calls.quiet_of_same (impl_scOk_q _ _)))
     go_wp2_with fail
     go_ret
     exact⟨by rw[HR.out];rfl,HGW.out.trans (HGV.out.drewN _)⟩
    by_cases t6:inB e.ppm 0 1000000=true
    rotate_left
    ·have t6:inB e.ppm 0 1000000=false:=by simpa using t6
     have HR:Hid (bookOk x=false):=by
      show _=_
      rw[HHEAD.out];exact HNO.out (by rw[HCA.out];simp[chanOk1,t6])
     go_quiet (first
      |(go_at_call 52;exact Calls.quiet_of_same (isChan_q _ _))
      |(go_at_call 34;exact Calls.quiet_of_same (impl_AmtOk_q _ _))
      |(go_at_call 16;exact Calls.quiet_of_same (in_q _ _ _ _))
      |(go_at_call 53;exact Calls.quiet_of_same (impl_scOk_q _ _)))
     go_wp2_with fail
     go_ret
     exact⟨by rw[HR.out];rfl,HGW.out.trans (HGV.out.drewN _)⟩
    by_cases t7:scOk e.score=true
    rotate_left
    ·have t7:scOk e.score=false:=by simpa using t7
     have HR:Hid (bookOk x=false):=by
      show _=_
      rw[HHEAD.out];exact HNO.out (by rw[HCA.out];simp[chanOk1,t7])
     go_quiet (first
      |(go_at_call 52;exact Calls.quiet_of_same (isChan_q _ _))
      |(go_at_call 34;exact Calls.quiet_of_same (impl_AmtOk_q _ _))
      |(go_at_call 16;exact Calls.quiet_of_same (in_q _ _ _ _))
      |(go_at_call 53;exact Calls.quiet_of_same (impl_scOk_q _ _)))
     go_wp2_with fail
     go_ret
     exact⟨by rw[HR.out];rfl,HGW.out.trans (HGV.out.drewN _)⟩
    by_cases t8:amtOk e.size=true
    rotate_left
    ·have t8:amtOk e.size=false:=by simpa using t8
     have HR:Hid (bookOk x=false):=by
      show _=_
      rw[HHEAD.out];exact HNO.out (by rw[HCA.out];simp[chanOk1,t8])
     go_quiet (first
      |(go_at_call 52;exact Calls.quiet_of_same (isChan_q _ _))
      |(go_at_call 34;exact Calls.quiet_of_same (impl_AmtOk_q _ _))
      |(go_at_call 16;exact Calls.quiet_of_same (in_q _ _ _ _))
      |(go_at_call 53;exact Calls.quiet_of_same (impl_scOk_q _ _)))
     go_wp2_with fail
     go_ret
     exact⟨by rw[HR.out];rfl,HGW.out.trans (HGV.out.drewN _)⟩
    go_quiet (first
     |(go_at_call 52;exact Calls.quiet_of_same (isChan_q _ _))
     |(go_at_call 34;exact Calls.quiet_of_same (impl_AmtOk_q _ _))
     |(go_at_call 16;exact Calls.quiet_of_same (in_q _ _ _ _))
     |(go_at_call 53;exact Calls.quiet_of_same (impl_scOk_q _ _)))
    go_wp2_with fail
    have HGN:=Lib.hid (HGW.out.trans (HGV.out.drewN nq))
    refine(transit_c x _ _ _ _ _ _ e.id _ (H1.out.grow' repHtlc_stable HGN.out.below) (H2.out.grow' repCircle_stable HGN.out.below) SM.out).mono ?_
    rintro e' w9 ⟨rfl,g9⟩
    have y0:w9.cell? ⟨wr.heap.size,0,none⟩=some (.int .i64 e.id):=cellGrow (w:=V.drewN nq) g9 v0
    have y1:w9.cell? ⟨wr.heap.size,1,none⟩=some (.int .i64 e.size):=cellGrow (w:=V.drewN nq) g9 v1
    have y2:w9.cell? ⟨wr.heap.size,2,none⟩=some (.int .i64 e.loc):=cellGrow (w:=V.drewN nq) g9 v2
    have y3:w9.cell? ⟨wr.heap.size,3,none⟩=some (.int .i64 e.remote):=cellGrow (w:=V.drewN nq) g9 v3
    have y4:w9.cell? ⟨wr.heap.size,4,none⟩=some (.int .i64 e.base):=cellGrow (w:=V.drewN nq) g9 v4
    have y5:w9.cell? ⟨wr.heap.size,5,none⟩=some (.int .i64 e.ppm):=cellGrow (w:=V.drewN nq) g9 v5
    have y6:w9.cell? ⟨wr.heap.size,6,none⟩=some (.int .i64 e.score):=cellGrow (w:=V.drewN nq) g9 v6
    have HG9:=Lib.hid (HGN.out.trans g9)
    have HG9':=Lib.hid ((HG.out.trans (HGV.out.drewN nq)).trans g9)
    have b3:=amtOk_true.1 t3
    have b4:=amtOk_true.1 t4
    obtain⟨o1,o2,o3,o4⟩:=sums_le SM.out e.id
    have TT2:=Lib.hid t2
    have HCS:Hid (chanSum x e=(e.size==e.loc+e.remote+outOf x e.id+intoOf x e.id)):=rfl
    clear v0 v1 v2 v3 v4 v5 v6 k0 k1 k2 k3 k4 k5 g9
    generalize outOf x e.id=po at *
    generalize intoOf x e.id=pi at *
    by_cases ts:e.size=e.loc+e.remote+po+pi
    ·have TS:=Lib.hid ts
     go_wp2
     go_roundg (x.chans.length-(j+1+1))
     case measure=>have:=HK.out;omega
     case rel=>exact⟨j+1+1,by have:=HK.out;omega,by go_num,fun i hi=>by
      by_cases he:i=j+1
      ·have h8:=t8;rw[TS.out]at h8;rw[he,HCA.out,HCS.out];simp[chanOk1,TS.out,t1,t3,t4,t5,t6,t7,h8,HASC.out,TT2.out]
      ·exact HALL.out i (by omega),HG9'.out⟩
    ·have TS:=Lib.hid ts
     go_wp2
     go_ret
     exact⟨by rw[HHEAD.out,HNO.out (by rw[HCA.out,HCS.out];simp[TS.out])];rfl,HG9.out⟩
  ·have hr:chansOk x=true:=chansOk_yes (fun j hj=>HALL.out j (by omega))
   have HR:Hid (bookOk x=true):=HHEAD.out.trans hr
   have HGW:=Lib.hid hgw;clear hr hgw hg
   go_wp2
   go_ret
   exact⟨by rw[HR.out];rfl,HGW.out⟩
end Go.Proofs.Ytnlpbgljaecdmaa
