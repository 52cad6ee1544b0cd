/- The plain data types, and how values read as such data. No program in sight. -/
import Derived.Test.YtlgamhhfgaeaoaaKSup
namespace Go.Proofs.Ytlgamhhfgaeaoaa
open Go.RowKit
def encByte(x:Int):List Value:=[.int .u8 x]
def repByte(_:World)(_ _:Nat)(cs:List Value)(x:Int):Prop:=cs=encByte x∧(0≤x∧x≤255)
theorem Byte.atCell{w:World}{b off lo hi:Nat}{xs:List Int}(h:Elems 1 repByte w lo hi b off xs)(i:Nat)(hi':i<xs.length):w.cell? ⟨b,off+i,none⟩=some (.int .u8 xs[i])∧0≤xs[i]∧xs[i]≤255:=by
 obtain⟨cs,⟨rfl,hw⟩,hc⟩:=h i hi'
 have:=hc 0 _ rfl
 simp only[Nat.mul_one,Nat.add_zero]at this
 exact⟨this,hw⟩
def encInt(x:Int):List Value:=[.int .i64 x]
def repInt(_:World)(_ _:Nat)(cs:List Value)(x:Int):Prop:=cs=encInt x∧i64 x
theorem repInt_stable:Stable repInt:=fun _ _ _ _ _ _ _ _ _ _ _ h=>h
theorem Int.atCell{w:World}{b off lo hi:Nat}{xs:List Int}(h:Elems 1 repInt w lo hi b off xs)(i:Nat)(hi':i<xs.length):w.cell? ⟨b,off+i,none⟩=some (.int .i64 xs[i])∧i64 xs[i]:=by
 obtain⟨cs,⟨rfl,hw⟩,hc⟩:=h i hi'
 have:=hc 0 _ rfl
 simp only[Nat.mul_one,Nat.add_zero]at this
 exact⟨this,hw⟩
structure Edge where
 frm:Int
 to:Int
 cap:Int
 cost:Int
def wfEdge(x:Edge):Prop:=i64 (x.frm)∧i64 (x.to)∧i64 (x.cap)∧i64 (x.cost)
def encEdge(x:Edge):List Value:=[.int .i64 x.frm,.int .i64 x.to,.int .i64 x.cap,.int .i64 x.cost]
def repEdge(_:World)(_ _:Nat)(cs:List Value)(x:Edge):Prop:=cs=encEdge x∧wfEdge x
theorem repEdge_stable:Stable repEdge:=fun _ _ _ _ _ _ _ _ _ _ _ h=>h
theorem Edge.atCell{w:World}{b off lo hi:Nat}{xs:List Edge}(h:Elems 4 repEdge w lo hi b off xs)(i:Nat)(hi':i<xs.length) :
 w.cell? ⟨b,off+i*4,none⟩=some (.int .i64 xs[i].frm)∧w.cell? ⟨b,off+i*4+1,none⟩=some (.int .i64 xs[i].to)∧w.cell? ⟨b,off+i*4+2,none⟩=some (.int .i64 xs[i].cap)∧w.cell? ⟨b,off+i*4+3,none⟩=some (.int .i64 xs[i].cost)∧wfEdge xs[i]:=by
 obtain⟨cs,⟨rfl,hw⟩,hc⟩:=h i hi'
 exact⟨hc 0 _ rfl,hc 1 _ rfl,hc 2 _ rfl,hc 3 _ rfl,hw⟩
structure Graph where
 n:Int
 edges:List Edge
end Go.Proofs.Ytlgamhhfgaeaoaa
