/- Texts joined: Book1, Book2. -/
import Derived.Test.YteblcdnhnckkaaaKBook0
import Derived.Test.YteblcdnhnckkaaaKHasI
namespace Go.Proofs.Yteblcdnhnckkaaa
open Go.RowKit
set_option linter.unusedSimpArgs false
set_option linter.unusedVariables false
def two(l:List Chan)(a b:Int):Bool:=!(a==b)&&decide (0≤chanAt l a)&&decide (0≤chanAt l b)
end Go.Proofs.Yteblcdnhnckkaaa
namespace Go.Proofs.Yteblcdnhnckkaaa
open Go.RowKit
set_option linter.unusedSimpArgs false
set_option linter.unusedVariables false
structure BookAt(w:World)(p:Nat)(x:Book)(a0:Option Addr)(c0:Nat)(a1:Option Addr)(c1:Nat)(a2:Option Addr)(c2:Nat):Prop where
 k0:w.cell? ⟨p,0,none⟩=some (.int .i64 x.tick)
 k1:w.cell? ⟨p,1,none⟩=some (.int .i64 x.next)
 k2:w.cell? ⟨p,2,none⟩=some (.int .i64 x.wallet)
 k3:w.cell? ⟨p,3,none⟩=some (.slice a0 x.chans.length c0)
 k4:w.cell? ⟨p,4,none⟩=some (.slice a1 x.htlcs.length c1)
 k5:w.cell? ⟨p,5,none⟩=some (.slice a2 x.circles.length c2)
theorem BookAt.new(x:Book)(a0:Option Addr)(c0:Nat)(a1:Option Addr)(c1:Nat)(a2:Option Addr)(c2:Nat)(w:World):BookAt (w.alloc (.cells #[.int .i64 x.tick,.int .i64 x.next,.int .i64 x.wallet,.slice a0 x.chans.length c0,.slice a1 x.htlcs.length c1,.slice a2 x.circles.length c2] 71)) w.heap.size x a0 c0 a1 c1 a2 c2:=
 ⟨cell_new 0 rfl,cell_new 1 rfl,cell_new 2 rfl,cell_new 3 rfl,cell_new 4 rfl,cell_new 5 rfl⟩
theorem BookAt.grow{w w':World}{p:Nat}{x:Book}{a0:Option Addr}{c0:Nat}{a1:Option Addr}{c1:Nat}{a2:Option Addr}{c2:Nat}(h:BookAt w p x a0 c0 a1 c1 a2 c2)(g:Grow w w'):BookAt w' p x a0 c0 a1 c1 a2 c2:=
 ⟨cellGrow g h.k0,cellGrow g h.k1,cellGrow g h.k2,cellGrow g h.k3,cellGrow g h.k4,cellGrow g h.k5⟩
def keyOk(n:Int):Bool:=inB n 1 1000000
def chOk(n:Int):Bool:=inB n 1 99
theorem isKey_c(n:Int)(w:World):Calls Try.prog 96 #[.int .i64 n] w fun e w'=>e=.returned (.bool (keyOk n))∧w=w':=by
 go_enter Try.func96,Try.ntmps96
 go_wp2_with fail
 refine(in_c _ _ _ _).mono ?_
 rintro e w' ⟨rfl,rfl⟩
 go_wp2_with fail
 go_ret
 exact⟨rfl,rfl⟩
theorem isChan_c(n:Int)(w:World):Calls Try.prog 95 #[.int .i64 n] w fun e w'=>e=.returned (.bool (chOk n))∧w=w':=by
 go_enter Try.func95,Try.ntmps95
 go_wp2_with fail
 refine(in_c _ _ _ _).mono ?_
 rintro e w' ⟨rfl,rfl⟩
 go_wp2_with fail
 go_ret
 exact⟨rfl,rfl⟩
def tot{α:Type}(f:α→Int)(l:List α):Int:=(l.map f).sum
theorem tot_le{α:Type}(f:α→Int)(M:Int)(hM:0≤M):∀(l:List α),(∀x∈l,0≤f x∧f x≤M)→0≤tot f l∧tot f l≤l.length*M
 |[],_=>by simp[tot]
 |x::r,h=>by
  have h1:=h x (by simp)
  have h2:=tot_le f M hM r (fun y hy=>h y (by simp[hy]))
  have e:tot f (x::r)=f x+tot f r:=by simp[tot]
  rw[e,List.length_cons]
  have:((r.length+1:Nat):Int)*M=r.length*M+M:=by rw[Int.natCast_add,Int.add_mul];simp
  rw[this]
  omega
theorem tot_take_le{α:Type}(f:α→Int)(M:Int)(hM:0≤M)(l:List α)(h:∀x∈l,0≤f x∧f x≤M)(k:Nat):0≤tot f (l.take k)∧tot f (l.take k)≤l.length*M:=by
 obtain⟨h1,h2⟩:=tot_le f M hM (l.take k) (fun x hx=>h x (List.mem_of_mem_take hx))
 refine⟨h1,Int.le_trans h2 (Int.mul_le_mul_of_nonneg_right ?_ hM)⟩
 have:(l.take k).length≤l.length:=by rw[List.length_take];omega
 omega
def hOut(ch:Int)(h:Htlc):Int:=if h.out=ch then h.amtOut else 0
structure Small(x:Book):Prop where
 nh:x.htlcs.length≤60
 nc:x.circles.length≤20
 h:∀h∈x.htlcs,0≤h.amtIn∧h.amtIn≤1125899906842624∧0≤h.amtOut∧h.amtOut≤1125899906842624
 c:∀c∈x.circles,0≤c.amt∧c.amt≤1125899906842624∧0≤c.fee∧c.fee≤1125899906842624
theorem Small.hOut{x:Book}(s:Small x)(ch:Int):∀h∈x.htlcs,0≤hOut ch h∧hOut ch h≤1125899906842624:=fun h hh=>by
 have:=s.h h hh
 unfold Go.Proofs.Yteblcdnhnckkaaa.hOut;split<;>omega
theorem tot_lim{α:Type}{f:α→Int}{M:Int}{l:List α}(N:Nat)(hM:0≤M)(h:∀x∈l,0≤f x∧f x≤M)(hl:l.length≤N)(k:Nat):0≤tot f (l.take k)∧tot f (l.take k)≤N*M:=by
 obtain⟨h1,h2⟩:=tot_take_le f M hM l h k
 exact⟨h1,Int.le_trans h2 (Int.mul_le_mul_of_nonneg_right (by omega) hM)⟩
end Go.Proofs.Yteblcdnhnckkaaa
