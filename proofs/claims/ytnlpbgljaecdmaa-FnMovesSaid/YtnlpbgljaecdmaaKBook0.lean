/- A book: where a channel lies, of the program and of the reference. -/
import Derived.Test.YtnlpbgljaecdmaaKOwn
import Derived.Test.YtnlpbgljaecdmaaKNum
namespace Go.Proofs.Ytnlpbgljaecdmaa
open Go.RowKit
set_option maxHeartbeats 16000000
set_option maxRecDepth 100000
set_option linter.unusedSimpArgs false
set_option linter.unusedVariables false
def chanAt(l:List Chan)(ch:Int):Int:=match l.findIdx? (fun c=>c.id==ch)with|some i=>(i:Int)|none=>-1
theorem chanAt_at{l:List Chan}{ch:Int}{k:Nat}(hk:k<l.length)(h:∀j (h:j<l.length),j<k→l[j].id≠ch)(h2:l[k].id=ch):chanAt l ch=(k:Int):=by
 unfold chanAt
 rw[List.findIdx?_eq_some_iff_getElem.2 ⟨hk,by simpa using h2,fun j hj=>by simpa using h j (by omega) hj⟩]
theorem chanAt_no{l:List Chan}{ch:Int}(h:∀j (h:j<l.length),l[j].id≠ch):chanAt l ch=-1:=by
 unfold chanAt
 rw[List.findIdx?_eq_none_iff.2 (fun x hx=>by
  obtain⟨j,hj,rfl⟩:=List.getElem_of_mem hx
  simpa using h j hj)]
theorem chanAt_cases(l:List Chan)(ch:Int):chanAt l ch=-1∨∃k,∃h:k<l.length,chanAt l ch=(k:Int)∧l[k].id=ch:=by
 unfold chanAt
 cases h:l.findIdx? (fun c=>c.id==ch)with
 |none=>exact .inl rfl
 |some i=>
  obtain⟨h1,h2,_⟩:=List.findIdx?_eq_some_iff_getElem.1 h
  exact .inr ⟨i,h1,rfl,by simpa using h2⟩
theorem impl_chanAt_c(x:Book)(a0:Option Addr)(c0:Nat)(a1:Option Addr)(c1:Nat)(a2:Option Addr)(c2:Nat)(ch:Int)(w:World)(h0:SlR 7 repChan w 0 w.heap.size (.slice a0 x.chans.length c0) x.chans)(hn:x.chans.length≤1048576) :
 Calls Try.prog 18 #[.agg #[.int .i64 x.tick,.int .i64 x.next,.int .i64 x.wallet,.slice a0 x.chans.length c0,.slice a1 x.htlcs.length c1,.slice a2 x.circles.length c2],.int .i64 ch] w fun e w'=>e=.returned (.int .i64 (chanAt x.chans ch))∧Grow w w':=by
 have HS:=Lib.hid h0;clear h0
 go_enter Try.func18,Try.ntmps18
 go_wp2
 have hg0:Grow w (w.alloc (.cells #[.int .i64 x.tick,.int .i64 x.next,.int .i64 x.wallet,.slice a0 x.chans.length c0,.slice a1 x.htlcs.length c1,.slice a2 x.circles.length c2] 27)):=(Grow.refl _).alloc _ _
 go_loopg [10] x.chans.length (fun g i wr=>∃k:Nat,k+g=x.chans.length∧i=.int .i64 k∧(∀j (h:j<x.chans.length),j<k→x.chans[j].id≠ch)∧Grow w wr)
 case atStart=>exact⟨0,by simp,rfl,fun j _ h=>absurd h (by omega),hg0⟩
 case round=>
  obtain⟨k,hk,rfl,hall,hg⟩:=hrel
  have HALL:=Lib.hid hall;clear hall hg0
  by_cases hlt:k<x.chans.length
  ·obtain⟨b,off,rfl,hb1,hb2,hel⟩:=HS.out.elems k hlt
   obtain⟨e0,e1,e2,e3,e4,e5,e6,_⟩:=Chan.atCell (hel.same repChan_stable (hg.same (Nat.le_refl _)) hb1 hb2) k hlt
   have hz2:b<wr.heap.size:=by have:=hg.size;omega
   have HG:=Lib.hid hg;have HK:=Lib.hid hk
   have HE:Hid (x.chans[k].id=ch→chanAt x.chans ch=(k:Int)):=fun h=>chanAt_at hlt (fun j h1 h2=>HALL.out j h1 h2) h
   have HT:Hid (x.chans[k].id≠ch→∀j (h:j<x.chans.length),j<k+1→x.chans[j].id≠ch):=fun h j h1 h2=>by
    by_cases e:j=k
    ·subst e;exact h
    ·exact HALL.out j h1 (by omega)
   clear hg hk hel
   generalize x.chans[k]=e at *
   by_cases t:e.id=ch
   ·have HTT:=Lib.hid t
    go_wp2
    go_ret
    exact⟨by rw[HE.out HTT.out];rfl,HG.out.alloc _ _⟩
   ·have HTT:=Lib.hid t
    go_wp2
    go_roundg (x.chans.length-(k+1))
    case measure=>have:=HK.out;omega
    case rel=>exact⟨k+1,by have:=HK.out;omega,by go_num,HT.out HTT.out,HG.out.alloc _ _⟩
  ·have hr:chanAt x.chans ch=-1:=chanAt_no (fun j h=>HALL.out j h (by omega))
   have HR:=Lib.hid hr;have HG:=Lib.hid hg;clear hr hg
   go_wp2
   go_ret
   exact⟨by rw[HR.out];rfl,HG.out⟩
end Go.Proofs.Ytnlpbgljaecdmaa
