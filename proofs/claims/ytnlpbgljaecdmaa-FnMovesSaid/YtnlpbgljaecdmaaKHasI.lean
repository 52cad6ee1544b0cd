/- Is a number in a row: as a plain function, and the program's own loop. -/
import Derived.Test.YtnlpbgljaecdmaaKOwn
import Derived.Test.YtnlpbgljaecdmaaKNum
namespace Go.Proofs.Ytnlpbgljaecdmaa
open Go.RowKit
set_option maxHeartbeats 16000000
set_option maxRecDepth 100000
set_option linter.unusedSimpArgs false
set_option linter.unusedVariables false
theorem SlR.take{α:Type}{sz:Nat}{rep:World→Nat→Nat→List Value→α→Prop}{w:World}{lo hi c:Nat}{a:Option Addr}{xs:List α}(h:SlR sz rep w lo hi (.slice a xs.length c) xs)(k:Nat)(hk:k≤xs.length) :
 SlR sz rep w lo hi (.slice a (xs.take k).length c) (xs.take k):=by
 obtain⟨a_,c_,heq,h1,h2,h3⟩:=h
 injection heq with q1 q2 q3
 subst q1 q3
 have hl:(xs.take k).length=k:=by rw[List.length_take];omega
 refine⟨_,_,rfl,by omega,h2,?_⟩
 rcases h3 with h3|⟨b,off,ha,hb1,hb2,he⟩
 ·exact .inl (by rw[h3];simp)
 ·exact .inr ⟨b,off,ha,hb1,hb2,fun i hi'=>by
   obtain⟨cs,hr,hc⟩:=he i (by omega)
   exact⟨cs,by simpa using hr,hc⟩⟩
def hasI(l:List Int)(n:Int):Bool:=l.any (fun x=>x==n)
theorem hasI_yes{l:List Int}{n:Int}{k:Nat}(hk:k<l.length)(h:l[k]=n):hasI l n=true:=by
 unfold hasI;rw[List.any_eq_true];exact⟨l[k],List.getElem_mem hk,by simpa using h⟩
theorem hasI_no{l:List Int}{n:Int}(h:∀j (h:j<l.length),l[j]≠n):hasI l n=false:=by
 unfold hasI;rw[List.any_eq_false]
 intro x hx
 obtain⟨j,hj,rfl⟩:=List.getElem_of_mem hx
 simpa using h j hj
theorem impl_hasInt_c(xs:List Int)(a:Option Addr)(c:Nat)(n:Int)(lo hi:Nat)(w:World)(h0:SlR 1 repInt w lo hi (.slice a xs.length c) xs)(hn:xs.length≤1048576) :
 Calls Try.prog 42 #[.slice a xs.length c,.int .i64 n] w fun e w'=>e=.returned (.bool (hasI xs n))∧w=w':=by
 have HS:=Lib.hid h0;clear h0
 go_enter Try.func42,Try.ntmps42
 go_wp2
 go_loopg [9] xs.length (fun g i wr=>∃k:Nat,k+g=xs.length∧i=.int .i64 k∧(∀j (h:j<xs.length),j<k→xs[j]≠n)∧wr=w)
 case atStart=>exact⟨0,by simp,rfl,fun j _ h=>absurd h (by omega),rfl⟩
 case round=>
  obtain⟨k,hk,rfl,hall,rfl⟩:=hrel
  have HALL:=Lib.hid hall;clear hall
  by_cases hlt:k<xs.length
  ·obtain⟨b,off,rfl,hb1,hb2,hel⟩:=HS.out.elems k hlt
   obtain⟨e0,_⟩:=Int.atCell hel k hlt
   have HK:=Lib.hid hk
   have HE:Hid (xs[k]=n→hasI xs n=true):=fun h=>hasI_yes hlt h
   have HT:Hid (xs[k]≠n→∀j (h:j<xs.length),j<k+1→xs[j]≠n):=fun h j h1 h2=>by
    by_cases e:j=k
    ·subst e;exact h
    ·exact HALL.out j h1 (by omega)
   clear hk hel
   generalize xs[k]=e at *
   by_cases t:e=n
   ·have HTT:=Lib.hid t
    go_wp2
    go_ret
    exact⟨by rw[HE.out HTT.out];rfl,rfl⟩
   ·have HTT:=Lib.hid t
    go_wp2
    go_roundg (xs.length-(k+1))
    case measure=>have:=HK.out;omega
    case rel=>exact⟨k+1,by have:=HK.out;omega,by go_num,HT.out HTT.out,rfl⟩
  ·have hr:hasI xs n=false:=hasI_no (fun j h=>HALL.out j h (by omega))
   have HR:=Lib.hid hr;clear hr
   go_wp2
   go_ret
   exact⟨by rw[HR.out];rfl,rfl⟩
theorem hasTake_c(xs:List Int)(a:Option Addr)(c k:Nat)(n:Int)(lo hi:Nat)(w:World)(h0:SlR 1 repInt w lo hi (.slice a xs.length c) xs)(hk:k≤xs.length)(hn:xs.length≤1048576) :
 Calls Try.prog 42 #[.slice a k c,.int .i64 n] w fun e w'=>e=.returned (.bool (hasI (xs.take k) n))∧w=w':=by
 have hl:(xs.take k).length=k:=by rw[List.length_take];omega
 have:=impl_hasInt_c (xs.take k) a c n lo hi w (h0.take k hk) (by omega)
 rw[hl]at this
 exact this
end Go.Proofs.Ytnlpbgljaecdmaa
