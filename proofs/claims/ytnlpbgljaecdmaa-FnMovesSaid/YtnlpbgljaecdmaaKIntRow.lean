/- Rows of integers that the call owns: copied, and stored into. -/
import Derived.Test.YtnlpbgljaecdmaaKArc0
import Derived.Test.YtnlpbgljaecdmaaKHasI
namespace Go.Proofs.Ytnlpbgljaecdmaa
open Go.RowKit
set_option maxHeartbeats 16000000
set_option maxRecDepth 100000
set_option linter.unusedSimpArgs false
set_option linter.unusedVariables false
theorem SlR.capm{α:Type}{sz:Nat}{rep:World→Nat→Nat→List Value→α→Prop}{w:World}{lo hi n c:Nat}{a:Option Addr}{xs:List α}(h:SlR sz rep w lo hi (.slice a n c) xs):c≤maxLen:=by
 obtain⟨a_,c_,heq,_,h1,_⟩:=h
 injection heq with _ _ q3
 subst q3;exact h1
def IntsOff(w:World)(b off:Nat)(s:List Int):Prop:=∀j (h:j<s.length),w.cell? ⟨b,off+j,none⟩=some (.int .i64 s[j])
theorem IntsOff.of_slr{w:World}{lo hi n c:Nat}{a:Option Addr}{xs:List Int}(h:SlR 1 repInt w lo hi (.slice a n c) xs)(h0:0<xs.length):∃b off,a=some ⟨b,off,none⟩∧lo≤b∧b<hi∧IntsOff w b off xs:=by
 obtain⟨b,off,ha,h1,h2,hel⟩:=h.elems 0 h0
 exact⟨b,off,ha,h1,h2,fun j hj=>by simpa using(Int.atCell hel j hj).1⟩
theorem IntsOff.set{w:World}{b off:Nat}{s:List Int}(h:IntsOff w b off s){i:Nat}(hi:i<s.length)(v:Int):IntsOff (w.setCell ⟨b,off+i,none⟩ (.int .i64 v)) b off (s.set i v):=fun j hj=>by
 have hj':j<s.length:=by simpa using hj
 by_cases e:i=j
 ·subst e
  rw[World.cell?_setCell_same w ⟨b,off+i,none⟩ _ (h i hi)];simp
 ·rw[World.cell?_setCell_other w ⟨b,off+i,none⟩ ⟨b,off+j,none⟩ _ (by intro e2;injection e2 with _ e3;omega),h j hj']
  rw[List.getElem_set_ne e]
theorem IntsOff.grow{w w':World}{b off:Nat}{s:List Int}(h:IntsOff w b off s)(g:Grow w w'):IntsOff w' b off s:=fun j hj=>cellGrow g (h j hj)
theorem IntsOff.slr{w:World}{b off lo hi c:Nat}{s:List Int}(h:IntsOff w b off s)(h1:lo≤b)(h2:b<hi)(hc:s.length≤c)(hm:c≤maxLen)(hr:∀i (h:i<s.length),i64 s[i]):SlR 1 repInt w lo hi (.slice (some ⟨b,off,none⟩) s.length c) s:=
 ⟨_,_,rfl,hc,hm,.inr ⟨b,off,rfl,h1,h2,fun i hi=>⟨[.int .i64 s[i]],⟨rfl,hr i hi⟩,fun j v hj=>by
   cases j with
   |zero=>simp at hj;subst hj;simpa using h i hi
   |succ j=>simp at hj⟩⟩⟩
def encJ(n:Int):List Value:=[.int .i64 n]
theorem length_encJ(n:Int):(encJ n).length=1:=rfl
theorem flat_encJ(l:List Int):l.flatMap encJ=l.map (Value.int .i64):=by
 induction l with
 |nil=>rfl
 |cons a r ih=>rw[List.flatMap_cons,ih];rfl
theorem ints_news{w:World}{b off:Nat}{s:List Int}(h:IntsOff w b off s):∀j u,(s.map (Value.int .i64))[j]? = some u→w.cell? ((⟨b,off,none⟩:Addr).add j)=some u:=fun j u hj=>by
 have hj':j<s.length:=by simpa using(List.getElem?_eq_some_iff.1 hj).1
 have e:(⟨b,off,none⟩:Addr).add j=⟨b,off+j,none⟩:=by unfold Addr.add;split<;>simp_all
 rw[e,h j hj']
 rw[List.getElem?_map,List.getElem?_eq_getElem hj']at hj
 exact hj
theorem infoInt':(Try.prog.info? 3).map (fun i=>(i.zero,i.size,i.bytes))=some (some (.int .i64 0),1,8):=by kernel_rfl
theorem ints_i64{w:World}{lo hi n c:Nat}{a:Option Addr}{xs:List Int}(h:SlR 1 repInt w lo hi (.slice a n c) xs):∀y∈xs,i64 y:=fun y hy=>by
 obtain⟨i,hi,rfl⟩:=List.getElem_of_mem hy
 obtain⟨b,off,_,_,_,hel⟩:=h.elems i hi
 exact(Int.atCell hel i hi).2
theorem ints_own{w:World}{base:Nat}{e:TypeId}{v:Value}{xs:List Int}(h:w.ownsRow base e 1 v xs.length (xs.map (Value.int .i64)))(hi:∀y∈xs,i64 y):SlR 1 repInt w base w.heap.size v xs:=
 SlR.of_own length_encJ (by rw[flat_encJ];exact h) (fun y hy=>⟨rfl,hi y hy⟩)
theorem impl_copyInts_c(xs:List Int)(a:Option Addr)(c:Nat)(w:World)(h0:SlR 1 repInt w 0 w.heap.size (.slice a xs.length c) xs)(hn:xs.length≤1048576)(h1:0<xs.length) :
 Calls Try.prog 43 #[.slice a xs.length c] w fun e w'=>∃a c,e=.returned (.slice a xs.length c)∧Grow w w'∧SlR 1 repInt w' w.heap.size w'.heap.size (.slice a xs.length c) xs:=by
 obtain⟨i0,hi0,hz0,hz1,hz2⟩:=info_parts infoInt'
 have hi64:=ints_i64 h0
 obtain⟨b,off,rfl,_,hb,hel⟩:=IntsOff.of_slr h0 h1
 have HEL:=Lib.hid hel;have HI:=Lib.hid hi64;clear hel hi64 h0
 go_enter Try.func43,Try.ntmps43
 go_wp2_with (at_builtin
              go_loud (refine wpList_append_g rfl _ (.tmp 3) 46 rfl w (Grow.refl w) 3 i0 _ 1 8 Try.underlying46 hi0 hz0 hz1 hz2 rfl (by omega) (.slice none 0 0) 0 [] rfl (World.ownsRow_nil _ _ _ _) ⟨b,off,none⟩ xs.length c (xs.map (Value.int .i64)) rfl (by simp) (ints_news HEL.out) (oneCell_ints xs) (by simp only[maxLen];omega) (by omega) ?_)
              intro v' w' hown' hg' hgb hat
              have HOWN':=Lib.hid hown';have HG':=Lib.hid hg';clear hown' hg' hgb hat)
 have hown:=HOWN'.out
 rw[Nat.zero_add,List.nil_append]at hown
 have hsl:=ints_own hown HI.out
 have hsl':=hsl
 obtain⟨av,cv,rfl,_,_,_⟩:=hsl'
 have HSL:=Lib.hid hsl
 clear hown HOWN' hsl
 go_wp2_with fail
 go_ret
 exact⟨av,cv,rfl,HG'.out,HSL.out⟩
end Go.Proofs.Ytnlpbgljaecdmaa
