/- A book: the closure over two channels; what is under way out of a channel and into it. -/
import Derived.Test.YtogkbcmfoalpiaaGreatKBook1
namespace Go.Proofs.YtogkbcmfoalpiaaGreat
open Go.RowKit
set_option maxHeartbeats 16000000
set_option maxRecDepth 100000
set_option linter.unusedSimpArgs false
set_option linter.unusedVariables false
structure BookAt(w:World)(p:Nat)(x:Book)(a0:Option Addr)(c0:Nat)(a1:Option Addr)(c1:Nat)(a2:Option Addr)(c2:Nat):Prop where
 k0:w.cell? ⟨p,0,none⟩=some (.int .i64 x.tick)
 k1:w.cell? ⟨p,1,none⟩=some (.int .i64 x.next)
 k2:w.cell? ⟨p,2,none⟩=some (.int .i64 x.wallet)
 k3:w.cell? ⟨p,3,none⟩=some (.slice a0 x.chans.length c0)
 k4:w.cell? ⟨p,4,none⟩=some (.slice a1 x.htlcs.length c1)
 k5:w.cell? ⟨p,5,none⟩=some (.slice a2 x.circles.length c2)
theorem BookAt.new(x:Book)(a0:Option Addr)(c0:Nat)(a1:Option Addr)(c1:Nat)(a2:Option Addr)(c2:Nat)(w:World):BookAt (w.alloc (.cells #[.int .i64 x.tick,.int .i64 x.next,.int .i64 x.wallet,.slice a0 x.chans.length c0,.slice a1 x.htlcs.length c1,.slice a2 x.circles.length c2] 27)) w.heap.size x a0 c0 a1 c1 a2 c2:=
 ⟨cell_new 0 rfl,cell_new 1 rfl,cell_new 2 rfl,cell_new 3 rfl,cell_new 4 rfl,cell_new 5 rfl⟩
theorem BookAt.grow{w w':World}{p:Nat}{x:Book}{a0:Option Addr}{c0:Nat}{a1:Option Addr}{c1:Nat}{a2:Option Addr}{c2:Nat}(h:BookAt w p x a0 c0 a1 c1 a2 c2)(g:Grow w w'):BookAt w' p x a0 c0 a1 c1 a2 c2:=
 ⟨cellGrow g h.k0,cellGrow g h.k1,cellGrow g h.k2,cellGrow g h.k3,cellGrow g h.k4,cellGrow g h.k5⟩
theorem apart_c(x:Book)(a0:Option Addr)(c0:Nat)(a1:Option Addr)(c1:Nat)(a2:Option Addr)(c2:Nat)(a b:Int)(p:Nat)(w:World)(hb:BookAt w p x a0 c0 a1 c1 a2 c2)(h0:SlR 7 repChan w 0 w.heap.size (.slice a0 x.chans.length c0) x.chans)(hn:x.chans.length≤1048576) :
 Calls Tryz.prog 118 #[.int .i64 a,.int .i64 b,.pointer (some ⟨p,0,none⟩)] w fun e w'=>e=.returned (.bool (two x.chans a b))∧Grow w w':=by
 have HB:=Lib.hid hb
 obtain⟨k0,k1,k2,k3,k4,k5⟩:=hb
 by_cases t:a=b
 ·have hr:two x.chans a b=false:=by simp[two,t]
  have HR:=Lib.hid hr;clear hr
  clear h0
  go_enter Tryz.func118,Tryz.ntmps118
  go_wp2_with fail
  all_goals
   go_ret
   exact⟨by rw[HR.out];rfl,Grow.refl _⟩
 ·have hr:two x.chans a b=(decide (0≤chanAt x.chans a)&&decide (0≤chanAt x.chans b)):=by
   have tb:(a==b)=false:=by simpa using t
   unfold two;rw[tb];rfl
  have HR:=Lib.hid hr;clear hr
  have H0:=Lib.hid h0;clear h0
  go_enter Tryz.func118,Tryz.ntmps118
  go_wp2_with fail
  refine(impl_chanAt_c x a0 c0 a1 c1 a2 c2 a _ H0.out hn).mono ?_
  rintro e w1 ⟨rfl,g1⟩
  clear k0 k1 k2 k3 k4 k5
  obtain⟨k0,k1,k2,k3,k4,k5⟩:=HB.out.grow g1
  have h1':SlR 7 repChan w1 0 w1.heap.size (.slice a0 x.chans.length c0) x.chans:=H0.out.grow' repChan_stable g1.below
  have H1:=Lib.hid h1';have HG1:=Lib.hid g1;clear h1' g1
  by_cases t1:0≤chanAt x.chans a
  ·have T1:=Lib.hid t1
   generalize chanAt x.chans a=p at *
   go_wp2_with fail
   refine(impl_chanAt_c x a0 c0 a1 c1 a2 c2 b _ H1.out hn).mono ?_
   rintro e w2 ⟨rfl,g2⟩
   have HG2:=Lib.hid g2;clear g2
   generalize chanAt x.chans b=q at *
   go_wp2_with fail
   all_goals
    go_ret
    exact⟨by rw[HR.out];simp[T1.out,t],HG1.out.trans HG2.out⟩
  ·have T1:=Lib.hid t1
   generalize chanAt x.chans a=p at *
   go_wp2_with fail
   all_goals
    go_ret
    exact⟨by rw[HR.out,show decide (0≤p)=false by simpa using T1.out];rfl,HG1.out⟩
def keyOk(n:Int):Bool:=inB n 1 1000000
def chOk(n:Int):Bool:=inB n 1 99
theorem isKey_c(n:Int)(w:World):Calls Tryz.prog 94 #[.int .i64 n] w fun e w'=>e=.returned (.bool (keyOk n))∧w=w':=by
 go_enter Tryz.func94,Tryz.ntmps94
 go_wp2_with fail
 refine(in_c _ _ _ _).mono ?_
 rintro e w' ⟨rfl,rfl⟩
 go_wp2_with fail
 go_ret
 exact⟨rfl,rfl⟩
theorem isChan_c(n:Int)(w:World):Calls Tryz.prog 65 #[.int .i64 n] w fun e w'=>e=.returned (.bool (chOk n))∧w=w':=by
 go_enter Tryz.func65,Tryz.ntmps65
 go_wp2_with fail
 refine(in_c _ _ _ _).mono ?_
 rintro e w' ⟨rfl,rfl⟩
 go_wp2_with fail
 go_ret
 exact⟨rfl,rfl⟩
def tot{α:Type}(f:α→Int)(l:List α):Int:=(l.map f).sum
theorem tot_nil{α:Type}(f:α→Int):tot f []=0:=rfl
theorem tot_succ{α:Type}(f:α→Int)(l:List α){k:Nat}(hk:k<l.length):tot f (l.take (k+1))=tot f (l.take k)+f l[k]:=by
 unfold tot
 rw[List.take_succ_eq_append_getElem hk,List.map_append,List.sum_append];simp
theorem tot_le{α:Type}(f:α→Int)(M:Int)(hM:0≤M):∀(l:List α),(∀x∈l,0≤f x∧f x≤M)→0≤tot f l∧tot f l≤l.length*M
 |[],_=>by simp[tot]
 |x::r,h=>by
  have h1:=h x (by simp)
  have h2:=tot_le f M hM r (fun y hy=>h y (by simp[hy]))
  have e:tot f (x::r)=f x+tot f r:=by simp[tot]
  rw[e,List.length_cons]
  have:((r.length+1:Nat):Int)*M=r.length*M+M:=by rw[Int.natCast_add,Int.add_mul];simp
  rw[this]
  omega
theorem tot_take_le{α:Type}(f:α→Int)(M:Int)(hM:0≤M)(l:List α)(h:∀x∈l,0≤f x∧f x≤M)(k:Nat):0≤tot f (l.take k)∧tot f (l.take k)≤l.length*M:=by
 obtain⟨h1,h2⟩:=tot_le f M hM (l.take k) (fun x hx=>h x (List.mem_of_mem_take hx))
 refine⟨h1,Int.le_trans h2 (Int.mul_le_mul_of_nonneg_right ?_ hM)⟩
 have:(l.take k).length≤l.length:=by rw[List.length_take];omega
 omega
def hOut(ch:Int)(h:Htlc):Int:=if h.out=ch then h.amtOut else 0
def hIn(ch:Int)(h:Htlc):Int:=if h.inn=ch then h.amtIn else 0
def cOut(ch:Int)(c:Circle):Int:=if c.frm=ch then c.amt+c.fee else 0
def cIn(ch:Int)(c:Circle):Int:=if c.to=ch then c.amt else 0
def outOf(x:Book)(ch:Int):Int:=tot (hOut ch) x.htlcs+tot (cOut ch) x.circles
def intoOf(x:Book)(ch:Int):Int:=tot (hIn ch) x.htlcs+tot (cIn ch) x.circles
structure Small(x:Book):Prop where
 nh:x.htlcs.length≤60
 nc:x.circles.length≤20
 h:∀h∈x.htlcs,0≤h.amtIn∧h.amtIn≤1125899906842624∧0≤h.amtOut∧h.amtOut≤1125899906842624
 c:∀c∈x.circles,0≤c.amt∧c.amt≤1125899906842624∧0≤c.fee∧c.fee≤1125899906842624
theorem Small.hOut{x:Book}(s:Small x)(ch:Int):∀h∈x.htlcs,0≤hOut ch h∧hOut ch h≤1125899906842624:=fun h hh=>by
 have:=s.h h hh
 unfold Go.Proofs.YtogkbcmfoalpiaaGreat.hOut;split<;>omega
theorem Small.hIn{x:Book}(s:Small x)(ch:Int):∀h∈x.htlcs,0≤hIn ch h∧hIn ch h≤1125899906842624:=fun h hh=>by
 have:=s.h h hh
 unfold Go.Proofs.YtogkbcmfoalpiaaGreat.hIn;split<;>omega
theorem Small.cOut{x:Book}(s:Small x)(ch:Int):∀c∈x.circles,0≤cOut ch c∧cOut ch c≤2251799813685248:=fun c hc=>by
 have:=s.c c hc
 unfold Go.Proofs.YtogkbcmfoalpiaaGreat.cOut;split<;>omega
theorem Small.cIn{x:Book}(s:Small x)(ch:Int):∀c∈x.circles,0≤cIn ch c∧cIn ch c≤2251799813685248:=fun c hc=>by
 have:=s.c c hc
 unfold Go.Proofs.YtogkbcmfoalpiaaGreat.cIn;split<;>omega
theorem tot_lim{α:Type}{f:α→Int}{M:Int}{l:List α}(N:Nat)(hM:0≤M)(h:∀x∈l,0≤f x∧f x≤M)(hl:l.length≤N)(k:Nat):0≤tot f (l.take k)∧tot f (l.take k)≤N*M:=by
 obtain⟨h1,h2⟩:=tot_take_le f M hM l h k
 exact⟨h1,Int.le_trans h2 (Int.mul_le_mul_of_nonneg_right (by omega) hM)⟩
end Go.Proofs.YtogkbcmfoalpiaaGreat
