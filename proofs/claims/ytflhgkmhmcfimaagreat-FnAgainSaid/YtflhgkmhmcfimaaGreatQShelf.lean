/-
 DERIVED: THE SHELF's CONTRACTS AT THIS DUMP, IN PLAIN WORDS (tools/lay-plain.mjs out of 'TryzShelf.lean', which tools/lay-shelf.mjs wrote): THE SAME DECLARATIONS UNDER THE SAME NAMES: 'import', 'namespace', 'open', 'def', 'theorem' AND NOTHING ELSE: no command of the shelf's: FOR A HAND-IN. Each laying: the table of numbers ('.._ren') and one theorem, a field a fact of the dump's own or the kernel's comparison; each contract: ONE APPLICATION.
-/
import Derived.Shelf.Small.Bits
import Derived.Shelf.Strconv.Itoa0
import Derived.Shelf.Bits.Mul64
import Derived.Test.YtflhgkmhmcfimaaGreatProg
namespace Go.Proofs
set_option maxRecDepth 100000
open Tryz
open Go.Shelf
def lays134_ren:Go.Shelf.Ren:=⟨fun|134=>281|129=>282|n=>n,fun|53=>286|3=>3|4=>4|46=>272|5=>5|9=>9|n=>n,fun|n=>n⟩
theorem lays134:Go.Proofs.Lays.n134 prog lays134_ren:={
 mixed:=by kernel_rfl
 f129:=func282.trans (congrArg some (by kernel_rfl))
 f134:=func281.trans (congrArg some (by kernel_rfl))
 t3:=underlying3
 a3:=isAgg3
 z3:=sizeOf3
 v3:=zeroValue3
 t4:=underlying4
 a4:=isAgg4
 z4:=sizeOf4
 v4:=zeroValue4
 t5:=underlying5
 a5:=isAgg5
 z5:=sizeOf5
 v5:=zeroValue5
 t9:=underlying9
 a9:=isAgg9
 z9:=sizeOf9
 v9:=zeroValue9
 t46:=underlying272
 a46:=isAgg272
 z46:=sizeOf272
 v46:=zeroValue272
 t53:=underlying286
 a53:=isAgg286
 z53:=sizeOf286
 v53:=zeroValue286 }
theorem bits_LeadingZeros64(x:Int)(w:World)(h0:0<=x)(V:x<=18446744073709551615) :
 Calls prog 281 #[.int .u64 x] w fun e w'=>e=.returned (.int .i64 (64-(Lib.bitLen x.toNat:Int)))/\w'=w:=Any.bits_LeadingZeros64 lays134 x w h0 V
def lays264_ren:Go.Shelf.Ren:=⟨fun|264=>279|n=>n,fun|53=>286|46=>272|n=>n,fun|n=>n⟩
theorem lays264:Go.Proofs.Lays.n264 prog lays264_ren:={
 mixed:=by kernel_rfl
 f264:=func279.trans (congrArg some (by kernel_rfl))
 t46:=underlying272
 a46:=isAgg272
 z46:=sizeOf272
 v46:=zeroValue272
 t53:=underlying286
 a53:=isAgg286
 z53:=sizeOf286
 v53:=zeroValue286 }
open Go.RowKit Go.Lib in
theorem bits_Mul64(x y:Nat)(hx:x<18446744073709551616)(hy:y<18446744073709551616)(w:World) :
 Calls prog 279 #[.int .u64 x,.int .u64 y] w fun e w'=>e=.returned (.tuple #[.int .u64 ((x*y/18446744073709551616:Nat):Int),.int .u64 ((x*y%18446744073709551616:Nat):Int)])/\w'=w:=Any.bits_Mul64 lays264 x y hx hy w
end Go.Proofs
