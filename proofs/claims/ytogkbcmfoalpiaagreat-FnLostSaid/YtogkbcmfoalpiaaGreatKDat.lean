/- The plain data types, and how values read as such data. No program in sight. -/
import Derived.Test.YtogkbcmfoalpiaaGreatKSup
namespace Go.Proofs.YtogkbcmfoalpiaaGreat
open Go.RowKit
def encByte(x:Int):List Value:=[.int .u8 x]
def repByte(_:World)(_ _:Nat)(cs:List Value)(x:Int):Prop:=cs=encByte x∧(0≤x∧x≤255)
theorem Byte.atCell{w:World}{b off lo hi:Nat}{xs:List Int}(h:Elems 1 repByte w lo hi b off xs)(i:Nat)(hi':i<xs.length):w.cell? ⟨b,off+i,none⟩=some (.int .u8 xs[i])∧0≤xs[i]∧xs[i]≤255:=by
 obtain⟨cs,⟨rfl,hw⟩,hc⟩:=h i hi'
 have:=hc 0 _ rfl
 simp only[Nat.mul_one,Nat.add_zero]at this
 exact⟨this,hw⟩
def encInt(x:Int):List Value:=[.int .i64 x]
def repInt(_:World)(_ _:Nat)(cs:List Value)(x:Int):Prop:=cs=encInt x∧i64 x
theorem repInt_stable:Stable repInt:=fun _ _ _ _ _ _ _ _ _ _ _ h=>h
theorem Int.atCell{w:World}{b off lo hi:Nat}{xs:List Int}(h:Elems 1 repInt w lo hi b off xs)(i:Nat)(hi':i<xs.length):w.cell? ⟨b,off+i,none⟩=some (.int .i64 xs[i])∧i64 xs[i]:=by
 obtain⟨cs,⟨rfl,hw⟩,hc⟩:=h i hi'
 have:=hc 0 _ rfl
 simp only[Nat.mul_one,Nat.add_zero]at this
 exact⟨this,hw⟩
structure Acc where
 kind:Int
 ch:Int
def wfAcc(x:Acc):Prop:=i64 (x.kind)∧i64 (x.ch)
def encAcc(x:Acc):List Value:=[.int .i64 x.kind,.int .i64 x.ch]
def repAcc(_:World)(_ _:Nat)(cs:List Value)(x:Acc):Prop:=cs=encAcc x∧wfAcc x
theorem Acc.atCell{w:World}{b off lo hi:Nat}{xs:List Acc}(h:Elems 2 repAcc w lo hi b off xs)(i:Nat)(hi':i<xs.length) :
 w.cell? ⟨b,off+i*2,none⟩=some (.int .i64 xs[i].kind)∧w.cell? ⟨b,off+i*2+1,none⟩=some (.int .i64 xs[i].ch)∧wfAcc xs[i]:=by
 obtain⟨cs,⟨rfl,hw⟩,hc⟩:=h i hi'
 exact⟨hc 0 _ rfl,hc 1 _ rfl,hw⟩
structure Line where
 acc:Acc
 amt:Int
def wfLine(x:Line):Prop:=i64 (x.acc.kind)∧i64 (x.acc.ch)∧i64 (x.amt)
def encLine(x:Line):List Value:=[.int .i64 x.acc.kind,.int .i64 x.acc.ch,.int .i64 x.amt]
def repLine(_:World)(_ _:Nat)(cs:List Value)(x:Line):Prop:=cs=encLine x∧wfLine x
theorem Line.atCell{w:World}{b off lo hi:Nat}{xs:List Line}(h:Elems 3 repLine w lo hi b off xs)(i:Nat)(hi':i<xs.length) :
 w.cell? ⟨b,off+i*3,none⟩=some (.int .i64 xs[i].acc.kind)∧w.cell? ⟨b,off+i*3+1,none⟩=some (.int .i64 xs[i].acc.ch)∧w.cell? ⟨b,off+i*3+2,none⟩=some (.int .i64 xs[i].amt)∧wfLine xs[i]:=by
 obtain⟨cs,⟨rfl,hw⟩,hc⟩:=h i hi'
 exact⟨hc 0 _ rfl,hc 1 _ rfl,hc 2 _ rfl,hw⟩
structure Posting where
 id:Int
 lines:List Line
structure Ledger where
 last:Int
 lines:List Line
structure Event where
 kind:Int
 key:Int
 ch:Int
 to:Int
 amt:Int
 fee:Int
 yes:Bool
def wfEvent(x:Event):Prop:=i64 (x.kind)∧i64 (x.key)∧i64 (x.ch)∧i64 (x.to)∧i64 (x.amt)∧i64 (x.fee)
def encEvent(x:Event):List Value:=[.int .i64 x.kind,.int .i64 x.key,.int .i64 x.ch,.int .i64 x.to,.int .i64 x.amt,.int .i64 x.fee,.bool x.yes]
def repEvent(_:World)(_ _:Nat)(cs:List Value)(x:Event):Prop:=cs=encEvent x∧wfEvent x
theorem Event.atCell{w:World}{b off lo hi:Nat}{xs:List Event}(h:Elems 7 repEvent w lo hi b off xs)(i:Nat)(hi':i<xs.length) :
 w.cell? ⟨b,off+i*7,none⟩=some (.int .i64 xs[i].kind)∧w.cell? ⟨b,off+i*7+1,none⟩=some (.int .i64 xs[i].key)∧w.cell? ⟨b,off+i*7+2,none⟩=some (.int .i64 xs[i].ch)∧w.cell? ⟨b,off+i*7+3,none⟩=some (.int .i64 xs[i].to)∧w.cell? ⟨b,off+i*7+4,none⟩=some (.int .i64 xs[i].amt)∧w.cell? ⟨b,off+i*7+5,none⟩=some (.int .i64 xs[i].fee)∧w.cell? ⟨b,off+i*7+6,none⟩=some (.bool xs[i].yes)∧wfEvent xs[i]:=by
 obtain⟨cs,⟨rfl,hw⟩,hc⟩:=h i hi'
 exact⟨hc 0 _ rfl,hc 1 _ rfl,hc 2 _ rfl,hc 3 _ rfl,hc 4 _ rfl,hc 5 _ rfl,hc 6 _ rfl,hw⟩
structure Chan where
 id:Int
 size:Int
 loc:Int
 remote:Int
 base:Int
 ppm:Int
 score:Int
def wfChan(x:Chan):Prop:=i64 (x.id)∧i64 (x.size)∧i64 (x.loc)∧i64 (x.remote)∧i64 (x.base)∧i64 (x.ppm)∧i64 (x.score)
def encChan(x:Chan):List Value:=[.int .i64 x.id,.int .i64 x.size,.int .i64 x.loc,.int .i64 x.remote,.int .i64 x.base,.int .i64 x.ppm,.int .i64 x.score]
def repChan(_:World)(_ _:Nat)(cs:List Value)(x:Chan):Prop:=cs=encChan x∧wfChan x
theorem repChan_stable:Stable repChan:=fun _ _ _ _ _ _ _ _ _ _ _ h=>h
theorem Chan.atCell{w:World}{b off lo hi:Nat}{xs:List Chan}(h:Elems 7 repChan w lo hi b off xs)(i:Nat)(hi':i<xs.length) :
 w.cell? ⟨b,off+i*7,none⟩=some (.int .i64 xs[i].id)∧w.cell? ⟨b,off+i*7+1,none⟩=some (.int .i64 xs[i].size)∧w.cell? ⟨b,off+i*7+2,none⟩=some (.int .i64 xs[i].loc)∧w.cell? ⟨b,off+i*7+3,none⟩=some (.int .i64 xs[i].remote)∧w.cell? ⟨b,off+i*7+4,none⟩=some (.int .i64 xs[i].base)∧w.cell? ⟨b,off+i*7+5,none⟩=some (.int .i64 xs[i].ppm)∧w.cell? ⟨b,off+i*7+6,none⟩=some (.int .i64 xs[i].score)∧wfChan xs[i]:=by
 obtain⟨cs,⟨rfl,hw⟩,hc⟩:=h i hi'
 exact⟨hc 0 _ rfl,hc 1 _ rfl,hc 2 _ rfl,hc 3 _ rfl,hc 4 _ rfl,hc 5 _ rfl,hc 6 _ rfl,hw⟩
structure Htlc where
 key:Int
 inn:Int
 out:Int
 amtIn:Int
 amtOut:Int
 kept:Bool
 age:Int
def wfHtlc(x:Htlc):Prop:=i64 (x.key)∧i64 (x.inn)∧i64 (x.out)∧i64 (x.amtIn)∧i64 (x.amtOut)∧i64 (x.age)
def encHtlc(x:Htlc):List Value:=[.int .i64 x.key,.int .i64 x.inn,.int .i64 x.out,.int .i64 x.amtIn,.int .i64 x.amtOut,.bool x.kept,.int .i64 x.age]
def repHtlc(_:World)(_ _:Nat)(cs:List Value)(x:Htlc):Prop:=cs=encHtlc x∧wfHtlc x
theorem repHtlc_stable:Stable repHtlc:=fun _ _ _ _ _ _ _ _ _ _ _ h=>h
theorem Htlc.atCell{w:World}{b off lo hi:Nat}{xs:List Htlc}(h:Elems 7 repHtlc w lo hi b off xs)(i:Nat)(hi':i<xs.length) :
 w.cell? ⟨b,off+i*7,none⟩=some (.int .i64 xs[i].key)∧w.cell? ⟨b,off+i*7+1,none⟩=some (.int .i64 xs[i].inn)∧w.cell? ⟨b,off+i*7+2,none⟩=some (.int .i64 xs[i].out)∧w.cell? ⟨b,off+i*7+3,none⟩=some (.int .i64 xs[i].amtIn)∧w.cell? ⟨b,off+i*7+4,none⟩=some (.int .i64 xs[i].amtOut)∧w.cell? ⟨b,off+i*7+5,none⟩=some (.bool xs[i].kept)∧w.cell? ⟨b,off+i*7+6,none⟩=some (.int .i64 xs[i].age)∧wfHtlc xs[i]:=by
 obtain⟨cs,⟨rfl,hw⟩,hc⟩:=h i hi'
 exact⟨hc 0 _ rfl,hc 1 _ rfl,hc 2 _ rfl,hc 3 _ rfl,hc 4 _ rfl,hc 5 _ rfl,hc 6 _ rfl,hw⟩
structure Circle where
 key:Int
 frm:Int
 to:Int
 amt:Int
 fee:Int
def wfCircle(x:Circle):Prop:=i64 (x.key)∧i64 (x.frm)∧i64 (x.to)∧i64 (x.amt)∧i64 (x.fee)
def encCircle(x:Circle):List Value:=[.int .i64 x.key,.int .i64 x.frm,.int .i64 x.to,.int .i64 x.amt,.int .i64 x.fee]
def repCircle(_:World)(_ _:Nat)(cs:List Value)(x:Circle):Prop:=cs=encCircle x∧wfCircle x
theorem repCircle_stable:Stable repCircle:=fun _ _ _ _ _ _ _ _ _ _ _ h=>h
theorem Circle.atCell{w:World}{b off lo hi:Nat}{xs:List Circle}(h:Elems 5 repCircle w lo hi b off xs)(i:Nat)(hi':i<xs.length) :
 w.cell? ⟨b,off+i*5,none⟩=some (.int .i64 xs[i].key)∧w.cell? ⟨b,off+i*5+1,none⟩=some (.int .i64 xs[i].frm)∧w.cell? ⟨b,off+i*5+2,none⟩=some (.int .i64 xs[i].to)∧w.cell? ⟨b,off+i*5+3,none⟩=some (.int .i64 xs[i].amt)∧w.cell? ⟨b,off+i*5+4,none⟩=some (.int .i64 xs[i].fee)∧wfCircle xs[i]:=by
 obtain⟨cs,⟨rfl,hw⟩,hc⟩:=h i hi'
 exact⟨hc 0 _ rfl,hc 1 _ rfl,hc 2 _ rfl,hc 3 _ rfl,hc 4 _ rfl,hw⟩
structure Book where
 tick:Int
 next:Int
 wallet:Int
 chans:List Chan
 htlcs:List Htlc
 circles:List Circle
structure Rule where
 lo:Int
 hi:Int
 step:Int
 min:Int
 max:Int
def wfRule(x:Rule):Prop:=i64 (x.lo)∧i64 (x.hi)∧i64 (x.step)∧i64 (x.min)∧i64 (x.max)
def encRule(x:Rule):List Value:=[.int .i64 x.lo,.int .i64 x.hi,.int .i64 x.step,.int .i64 x.min,.int .i64 x.max]
def repRule(_:World)(_ _:Nat)(cs:List Value)(x:Rule):Prop:=cs=encRule x∧wfRule x
theorem Rule.atCell{w:World}{b off lo hi:Nat}{xs:List Rule}(h:Elems 5 repRule w lo hi b off xs)(i:Nat)(hi':i<xs.length) :
 w.cell? ⟨b,off+i*5,none⟩=some (.int .i64 xs[i].lo)∧w.cell? ⟨b,off+i*5+1,none⟩=some (.int .i64 xs[i].hi)∧w.cell? ⟨b,off+i*5+2,none⟩=some (.int .i64 xs[i].step)∧w.cell? ⟨b,off+i*5+3,none⟩=some (.int .i64 xs[i].min)∧w.cell? ⟨b,off+i*5+4,none⟩=some (.int .i64 xs[i].max)∧wfRule xs[i]:=by
 obtain⟨cs,⟨rfl,hw⟩,hc⟩:=h i hi'
 exact⟨hc 0 _ rfl,hc 1 _ rfl,hc 2 _ rfl,hc 3 _ rfl,hc 4 _ rfl,hw⟩
end Go.Proofs.YtogkbcmfoalpiaaGreat
