/- BookOk, as a plain definition, and its parts. -/
import Derived.Test.YtogkbcmfoalpiaaGreatKBook6
namespace Go.Proofs.YtogkbcmfoalpiaaGreat
open Go.RowKit
set_option linter.unusedSimpArgs false
set_option linter.unusedVariables false
def scOk(n:Int):Bool:=inB n (-100) 100
def chanOk1(c:Chan):Bool:=chOk c.id&&amtOk c.loc&&amtOk c.remote&&amtOk c.base&&inB c.ppm 0 1000000&&scOk c.score&&amtOk c.size
def chanSum(x:Book)(c:Chan):Bool:=c.size==c.loc+c.remote+outOf x c.id+intoOf x c.id
def ascAt(l:List Chan)(i:Nat):Bool:=match i with|0=>true|j+1=>match l[j]?,l[j+1]? with|some a,some b=>decide (a.id<b.id)|_,_=>true
def chanAtOk(x:Book)(i:Nat):Bool:=match x.chans[i]? with|some c=>chanOk1 c&&ascAt x.chans i&&chanSum x c|none=>true
def chansOk(x:Book):Bool:=(List.range x.chans.length).all (chanAtOk x)
def bookOk(x:Book):Bool:=amtOk x.tick&&amtOk x.wallet&&inB x.next 1 1125899906842624&&decide (x.chans.length≤20)&&partsOk x&&chansOk x
theorem chansOk_no{x:Book}{k:Nat}(hk:k<x.chans.length)(h:chanAtOk x k=false):chansOk x=false:=by
 unfold chansOk;rw[List.all_eq_false];exact⟨k,by simpa using hk,by simp[h]⟩
theorem chansOk_yes{x:Book}(h:∀j,j<x.chans.length→chanAtOk x j=true):chansOk x=true:=by
 unfold chansOk;rw[List.all_eq_true];intro j hj;exact h j (by simpa using hj)
theorem Small.of_parts{x:Book}(h:partsOk x=true):Small x:=by
 unfold partsOk at h
 simp only[Bool.and_eq_true,decide_eq_true_eq,List.all_eq_true]at h
 obtain⟨⟨⟨⟨h1,h2⟩,h3⟩,h4⟩,_⟩:=h
 refine⟨h1,h2,fun e he=>?_,fun e he=>?_⟩
 ·obtain⟨d1,d2,d3,_,_⟩:=hOk_iff.1 (h3 e he)
  have:=amtOk_true.1 d1
  omega
 ·obtain⟨d1,d2,d3,_⟩:=cOk_iff.1 (h4 e he)
  have:=amtOk_true.1 d1
  have:=amtOk_true.1 d3
  omega
theorem impl_scOk_c(n:Int)(w:World):Calls Tryz.prog 66 #[.int .i64 n] w fun e w'=>e=.returned (.bool (scOk n))∧w=w':=by
 go_enter Tryz.func66,Tryz.ntmps66
 go_wp2_with (go_at_call 63;refine(in_c _ _ _ _).mono ?_;rintro e w' ⟨rfl,rfl⟩)
 go_ret
 exact⟨rfl,rfl⟩
theorem spec_scOk_c(n:Int)(w:World):Calls Tryz.prog 78 #[.int .i64 n] w fun e w'=>e=.returned (.bool (scOk n))∧w=w':=by
 unfold scOk inB
 by_cases h1:-100≤n<;>by_cases h2:n≤100
 all_goals
  go_enter Tryz.func78,Tryz.ntmps78
  go_wp2
  go_ret
  exact⟨by simp[h1,h2],rfl⟩
theorem impl_AmtOk_q(n:Int)(w:World):Calls Tryz.prog 62 #[.int .i64 n] w fun e w'=>e=.returned (.bool (amtOk n))∧w'=w:=(impl_AmtOk_c n w).mono fun _ _ h=>⟨h.1,h.2.symm⟩
theorem spec_AmtOk_q(n:Int)(w:World):Calls Tryz.prog 76 #[.int .i64 n] w fun e w'=>e=.returned (.bool (amtOk n))∧w'=w:=(spec_AmtOk_c n w).mono fun _ _ h=>⟨h.1,h.2.symm⟩
theorem impl_scOk_q(n:Int)(w:World):Calls Tryz.prog 66 #[.int .i64 n] w fun e w'=>e=.returned (.bool (scOk n))∧w'=w:=(impl_scOk_c n w).mono fun _ _ h=>⟨h.1,h.2.symm⟩
theorem spec_scOk_q(n:Int)(w:World):Calls Tryz.prog 78 #[.int .i64 n] w fun e w'=>e=.returned (.bool (scOk n))∧w'=w:=(spec_scOk_c n w).mono fun _ _ h=>⟨h.1,h.2.symm⟩
theorem isChan_q(n:Int)(w:World):Calls Tryz.prog 65 #[.int .i64 n] w fun e w'=>e=.returned (.bool (chOk n))∧w'=w:=(isChan_c n w).mono fun _ _ h=>⟨h.1,h.2.symm⟩
end Go.Proofs.YtogkbcmfoalpiaaGreat
