/-
  No cell of these rows narrows 'for every input' (looked for: loops, veiled, ifaces, maps, wideKeys, modest, calm, conditions, laid).
  DERIVED. THE GIVEN ROWS OF THIS SEAT. 5 by the template 'for every input the law returns true; each argument reads behind the call as it read before'; 0 by the template 'total and deterministic' (their statements: YtogkbcmfoalpiaaGreatTotals.lean).
  GIVEN WITH THE SEED: the statements are not yours to turn. If you find one false, say at which input.
  Laid BY PROGRAM, IN A SANDBOX (cutbox-rows.mjs): the forced cells as the released guide's own fill.sh prints them over the translation 88dcd334e5a9af42… (all of the seat's roots in one cut). By AI agents, Wed Nov 11 2026. No macro, syntax, notation, axiom, sorry.
-/
import Derived.Test.YtogkbcmfoalpiaaGreatChecked
import GoSem.Claim
import GoSem.ClaimJoined
import GoSem.ClaimMapViews
import Derived.JoinedTies
import Derived.KernelRfl
namespace Go.Proofs.YtogkbcmfoalpiaaGreat
/- THE CELL 'sum', in the pinned program and in every row, IS THE sha256 OF THE DUMP (.gsa) THAT YtogkbcmfoalpiaaGreatProg.lean LOADS. Nothing in Lean hashes anything: it is a label: what it is worth is what the hold of that sum in a sandbox is worth. -/
noncomputable def Tryz.pinned : Pinned := { name := "ytogkbcmfoalpiaagreat", sum := "88dcd334e5a9af42c84e126b9efcf09d6043fbfa2e58f8e754e6bb56ae9cc429", checked := Tryz.checked }
namespace Rows
def none {H : Type} : Left H := { results := [], args := [] }

/-- 'laws.FnSizes': WHATEVER THE INPUT: true; the input reads as it did. -/
def fnSizesSpec : ChangeSpec := { name := "fnSizes", fn := fun _ => fun
  | [d] => { results := [.lit (.bool true)], args := [d] }
  | _ => none }
def fnSizesRow : OpenClaim := { program := "ytogkbcmfoalpiaagreat", sum := "88dcd334e5a9af42c84e126b9efcf09d6043fbfa2e58f8e754e6bb56ae9cc429", func := "loop.example/g00400/laws.FnSizes", spec := "fnSizes", unfollowed := true, recurses := true, named := ["math/bits.divideError", "math/bits.overflowError"], apart := false }
def FnSizesSaid : Prop := fnSizesRow.holds Tryz.pinned (OpenSpec.ofChange fnSizesSpec)

/-- ITS FALSE NEIGHBOUR: 'it returns false'. Refute it at one input. -/
def fnSizesWrong : ChangeSpec := { name := "fnSizes", fn := fun _ => fun
  | [d] => { results := [.lit (.bool false)], args := [d] }
  | _ => none }
def FnSizesWrongFalsely : Prop := fnSizesRow.holds Tryz.pinned (OpenSpec.ofChange fnSizesWrong)

/-- 'laws.FnAgrees': WHATEVER THE INPUT: true; the input reads as it did. -/
def fnAgreesSpec : ChangeSpec := { name := "fnAgrees", fn := fun _ => fun
  | [d] => { results := [.lit (.bool true)], args := [d] }
  | _ => none }
def fnAgreesRow : OpenClaim := { program := "ytogkbcmfoalpiaagreat", sum := "88dcd334e5a9af42c84e126b9efcf09d6043fbfa2e58f8e754e6bb56ae9cc429", func := "loop.example/g00400/laws.FnAgrees", spec := "fnAgrees", unfollowed := true, recurses := true, named := ["math/bits.divideError", "math/bits.overflowError"], apart := false }
def FnAgreesSaid : Prop := fnAgreesRow.holds Tryz.pinned (OpenSpec.ofChange fnAgreesSpec)

/-- ITS FALSE NEIGHBOUR: 'it returns false'. Refute it at one input. -/
def fnAgreesWrong : ChangeSpec := { name := "fnAgrees", fn := fun _ => fun
  | [d] => { results := [.lit (.bool false)], args := [d] }
  | _ => none }
def FnAgreesWrongFalsely : Prop := fnAgreesRow.holds Tryz.pinned (OpenSpec.ofChange fnAgreesWrong)

/-- 'laws.FnTurns': WHATEVER THE INPUT: true; the input reads as it did. -/
def fnTurnsSpec : ChangeSpec := { name := "fnTurns", fn := fun _ => fun
  | [d] => { results := [.lit (.bool true)], args := [d] }
  | _ => none }
def fnTurnsRow : OpenClaim := { program := "ytogkbcmfoalpiaagreat", sum := "88dcd334e5a9af42c84e126b9efcf09d6043fbfa2e58f8e754e6bb56ae9cc429", func := "loop.example/g00400/laws.FnTurns", spec := "fnTurns", unfollowed := true, recurses := true, named := ["math/bits.divideError", "math/bits.overflowError"], apart := false }
def FnTurnsSaid : Prop := fnTurnsRow.holds Tryz.pinned (OpenSpec.ofChange fnTurnsSpec)

/-- ITS FALSE NEIGHBOUR: 'it returns false'. Refute it at one input. -/
def fnTurnsWrong : ChangeSpec := { name := "fnTurns", fn := fun _ => fun
  | [d] => { results := [.lit (.bool false)], args := [d] }
  | _ => none }
def FnTurnsWrongFalsely : Prop := fnTurnsRow.holds Tryz.pinned (OpenSpec.ofChange fnTurnsWrong)

/-- 'laws.FnForward': WHATEVER THE INPUT: true; the input reads as it did. -/
def fnForwardSpec : ChangeSpec := { name := "fnForward", fn := fun _ => fun
  | [d] => { results := [.lit (.bool true)], args := [d] }
  | _ => none }
def fnForwardRow : OpenClaim := { program := "ytogkbcmfoalpiaagreat", sum := "88dcd334e5a9af42c84e126b9efcf09d6043fbfa2e58f8e754e6bb56ae9cc429", func := "loop.example/g00400/laws.FnForward", spec := "fnForward", unfollowed := true, recurses := true, named := ["math/bits.divideError", "math/bits.overflowError"], apart := false }
def FnForwardSaid : Prop := fnForwardRow.holds Tryz.pinned (OpenSpec.ofChange fnForwardSpec)

/-- ITS FALSE NEIGHBOUR: 'it returns false'. Refute it at one input. -/
def fnForwardWrong : ChangeSpec := { name := "fnForward", fn := fun _ => fun
  | [d] => { results := [.lit (.bool false)], args := [d] }
  | _ => none }
def FnForwardWrongFalsely : Prop := fnForwardRow.holds Tryz.pinned (OpenSpec.ofChange fnForwardWrong)

/-- 'laws.FnLost': WHATEVER THE INPUT: true; the input reads as it did. -/
def fnLostSpec : ChangeSpec := { name := "fnLost", fn := fun _ => fun
  | [d] => { results := [.lit (.bool true)], args := [d] }
  | _ => none }
def fnLostRow : OpenClaim := { program := "ytogkbcmfoalpiaagreat", sum := "88dcd334e5a9af42c84e126b9efcf09d6043fbfa2e58f8e754e6bb56ae9cc429", func := "loop.example/g00400/laws.FnLost", spec := "fnLost", unfollowed := true, recurses := true, named := ["math/bits.divideError", "math/bits.overflowError"], apart := false }
def FnLostSaid : Prop := fnLostRow.holds Tryz.pinned (OpenSpec.ofChange fnLostSpec)

/-- ITS FALSE NEIGHBOUR: 'it returns false'. Refute it at one input. -/
def fnLostWrong : ChangeSpec := { name := "fnLost", fn := fun _ => fun
  | [d] => { results := [.lit (.bool false)], args := [d] }
  | _ => none }
def FnLostWrongFalsely : Prop := fnLostRow.holds Tryz.pinned (OpenSpec.ofChange fnLostWrong)

/- THE SECOND FORM. 'bulk': how many values and letters a reading holds, each counted each time it is reached (what is shared counts as often as it is met; a slice's spare places count too). A statement '..UptoSaid' is the law's where the arguments, and the package variables that the reading takes, are together of bulk at most 1048576: NARROWER than '..Said'. Prove '..Said' where nothing that the law and all that it calls make is longer than what came in: it says more and counts as full. Else prove '..UptoSaid'. A law counts once. -/
mutual
def uptoBulk {H : Type} : DataW H → Nat
  | .lit (.string bytes) => bytes.length + 1
  | .lit _ => 1
  | .nil => 1
  | .ptr d => uptoBulk d + 1
  | .slice elems spare => uptoBulkAll elems + uptoBulkAll spare + 1
  | .agg parts => uptoBulkAll parts + 1
  | .iface _ d => uptoBulk d + 1
  | .map entries => uptoBulkEntries entries + 1
  | .held _ => 1
def uptoBulkAll {H : Type} : List (DataW H) → Nat
  | [] => 0
  | d :: r => uptoBulk d + uptoBulkAll r
def uptoBulkEntries {H : Type} : List (Lit × DataW H) → Nat
  | [] => 0
  | x :: r => uptoBulkEntry x + uptoBulkEntries r
def uptoBulkEntry {H : Type} : Lit × DataW H → Nat
  | (.string bytes, d) => bytes.length + uptoBulk d + 1
  | (_, d) => uptoBulk d + 1
 end
def uptoSmall : (H : Type) → List (DataW H) → Bool := fun _ ds => decide (uptoBulkAll ds ≤ 1048576)
def OpenSpec.upto (s : _root_.Go.ChangeSpec) : _root_.Go.OpenSpec := { _root_.Go.OpenSpec.ofChange s with cond := some uptoSmall }

/-- 'laws.FnSizes', WHERE WHAT IT READS IS OF BULK AT MOST 1048576: true; the input reads as it did. -/
def fnSizesUptoRow : OpenClaim := { program := "ytogkbcmfoalpiaagreat", sum := "88dcd334e5a9af42c84e126b9efcf09d6043fbfa2e58f8e754e6bb56ae9cc429", func := "loop.example/g00400/laws.FnSizes", spec := "fnSizes", unfollowed := true, recurses := true, named := ["math/bits.divideError", "math/bits.overflowError"], apart := false, narrowed := true }
def FnSizesUptoSaid : Prop := fnSizesUptoRow.holds Tryz.pinned (OpenSpec.upto fnSizesSpec)

/-- 'laws.FnAgrees', WHERE WHAT IT READS IS OF BULK AT MOST 1048576: true; the input reads as it did. -/
def fnAgreesUptoRow : OpenClaim := { program := "ytogkbcmfoalpiaagreat", sum := "88dcd334e5a9af42c84e126b9efcf09d6043fbfa2e58f8e754e6bb56ae9cc429", func := "loop.example/g00400/laws.FnAgrees", spec := "fnAgrees", unfollowed := true, recurses := true, named := ["math/bits.divideError", "math/bits.overflowError"], apart := false, narrowed := true }
def FnAgreesUptoSaid : Prop := fnAgreesUptoRow.holds Tryz.pinned (OpenSpec.upto fnAgreesSpec)

/-- 'laws.FnTurns', WHERE WHAT IT READS IS OF BULK AT MOST 1048576: true; the input reads as it did. -/
def fnTurnsUptoRow : OpenClaim := { program := "ytogkbcmfoalpiaagreat", sum := "88dcd334e5a9af42c84e126b9efcf09d6043fbfa2e58f8e754e6bb56ae9cc429", func := "loop.example/g00400/laws.FnTurns", spec := "fnTurns", unfollowed := true, recurses := true, named := ["math/bits.divideError", "math/bits.overflowError"], apart := false, narrowed := true }
def FnTurnsUptoSaid : Prop := fnTurnsUptoRow.holds Tryz.pinned (OpenSpec.upto fnTurnsSpec)

/-- 'laws.FnForward', WHERE WHAT IT READS IS OF BULK AT MOST 1048576: true; the input reads as it did. -/
def fnForwardUptoRow : OpenClaim := { program := "ytogkbcmfoalpiaagreat", sum := "88dcd334e5a9af42c84e126b9efcf09d6043fbfa2e58f8e754e6bb56ae9cc429", func := "loop.example/g00400/laws.FnForward", spec := "fnForward", unfollowed := true, recurses := true, named := ["math/bits.divideError", "math/bits.overflowError"], apart := false, narrowed := true }
def FnForwardUptoSaid : Prop := fnForwardUptoRow.holds Tryz.pinned (OpenSpec.upto fnForwardSpec)

/-- 'laws.FnLost', WHERE WHAT IT READS IS OF BULK AT MOST 1048576: true; the input reads as it did. -/
def fnLostUptoRow : OpenClaim := { program := "ytogkbcmfoalpiaagreat", sum := "88dcd334e5a9af42c84e126b9efcf09d6043fbfa2e58f8e754e6bb56ae9cc429", func := "loop.example/g00400/laws.FnLost", spec := "fnLost", unfollowed := true, recurses := true, named := ["math/bits.divideError", "math/bits.overflowError"], apart := false, narrowed := true }
def FnLostUptoSaid : Prop := fnLostUptoRow.holds Tryz.pinned (OpenSpec.upto fnLostSpec)

end Rows
end Go.Proofs.YtogkbcmfoalpiaaGreat
