/-
  No cell of these rows narrows 'for every input' (looked for: loops, veiled, ifaces, maps, wideKeys, modest, calm, conditions, laid).
  DERIVED. THE GIVEN ROWS OF THIS SEAT. 6 by the template 'for every input the law returns true; each argument reads behind the call as it read before'; 0 by the template 'total and deterministic' (their statements: YtbjnbhlpibadnaaTotals.lean).
  GIVEN WITH THE SEED: the statements are not yours to turn. If you find one false, say at which input.
  Laid BY PROGRAM, IN A SANDBOX (cutbox-rows.mjs): the forced cells as the released guide's own fill.sh prints them over the translation 56c679ffe54fa922… (all of the seat's roots in one cut). By AI agents, Wed Nov 11 2026. No macro, syntax, notation, axiom, sorry.
-/
import Derived.Test.YtbjnbhlpibadnaaChecked
import GoSem.Claim
import GoSem.ClaimJoined
import GoSem.ClaimMapViews
import Derived.JoinedTies
import Derived.KernelRfl
namespace Go.Proofs.Ytbjnbhlpibadnaa
/- THE CELL 'sum', in the pinned program and in every row, IS THE sha256 OF THE DUMP (.gsa) THAT YtbjnbhlpibadnaaProg.lean LOADS. Nothing in Lean hashes anything: it is a label: what it is worth is what the hold of that sum in a sandbox is worth. -/
noncomputable def Try.pinned : Pinned := { name := "ytbjnbhlpibadnaa", sum := "56c679ffe54fa9227accf83b3f04ca3c098d6925890f800100083eea5735cb2c", checked := Try.checked }
namespace Rows
def none {H : Type} : Left H := { results := [], args := [] }

/-- 'laws.FnExactPush': WHATEVER THE INPUT: true; the input reads as it did. -/
def fnExactPushSpec : ChangeSpec := { name := "fnExactPush", fn := fun _ => fun
  | [d1, d2, d3] => { results := [.lit (.bool true)], args := [d1, d2, d3] }
  | _ => none }
def fnExactPushRow : OpenClaim := { program := "ytbjnbhlpibadnaa", sum := "56c679ffe54fa9227accf83b3f04ca3c098d6925890f800100083eea5735cb2c", func := "loop.example/g00400/laws.FnExactPush", spec := "fnExactPush", apart := false }
def FnExactPushSaid : Prop := fnExactPushRow.holds Try.pinned (OpenSpec.ofChange fnExactPushSpec)

/-- ITS FALSE NEIGHBOUR: 'it returns false'. Refute it at one input. -/
def fnExactPushWrong : ChangeSpec := { name := "fnExactPush", fn := fun _ => fun
  | [d1, d2, d3] => { results := [.lit (.bool false)], args := [d1, d2, d3] }
  | _ => none }
def FnExactPushWrongFalsely : Prop := fnExactPushRow.holds Try.pinned (OpenSpec.ofChange fnExactPushWrong)

/-- 'laws.FnExactRing': WHATEVER THE INPUT: true; the input reads as it did. -/
def fnExactRingSpec : ChangeSpec := { name := "fnExactRing", fn := fun _ => fun
  | [d1, d2] => { results := [.lit (.bool true)], args := [d1, d2] }
  | _ => none }
def fnExactRingRow : OpenClaim := { program := "ytbjnbhlpibadnaa", sum := "56c679ffe54fa9227accf83b3f04ca3c098d6925890f800100083eea5735cb2c", func := "loop.example/g00400/laws.FnExactRing", spec := "fnExactRing", apart := false }
def FnExactRingSaid : Prop := fnExactRingRow.holds Try.pinned (OpenSpec.ofChange fnExactRingSpec)

/-- ITS FALSE NEIGHBOUR: 'it returns false'. Refute it at one input. -/
def fnExactRingWrong : ChangeSpec := { name := "fnExactRing", fn := fun _ => fun
  | [d1, d2] => { results := [.lit (.bool false)], args := [d1, d2] }
  | _ => none }
def FnExactRingWrongFalsely : Prop := fnExactRingRow.holds Try.pinned (OpenSpec.ofChange fnExactRingWrong)

/-- 'laws.FnExactCheapest': WHATEVER THE INPUT: true; the input reads as it did. -/
def fnExactCheapestSpec : ChangeSpec := { name := "fnExactCheapest", fn := fun _ => fun
  | [d] => { results := [.lit (.bool true)], args := [d] }
  | _ => none }
def fnExactCheapestRow : OpenClaim := { program := "ytbjnbhlpibadnaa", sum := "56c679ffe54fa9227accf83b3f04ca3c098d6925890f800100083eea5735cb2c", func := "loop.example/g00400/laws.FnExactCheapest", spec := "fnExactCheapest", apart := false }
def FnExactCheapestSaid : Prop := fnExactCheapestRow.holds Try.pinned (OpenSpec.ofChange fnExactCheapestSpec)

/-- ITS FALSE NEIGHBOUR: 'it returns false'. Refute it at one input. -/
def fnExactCheapestWrong : ChangeSpec := { name := "fnExactCheapest", fn := fun _ => fun
  | [d] => { results := [.lit (.bool false)], args := [d] }
  | _ => none }
def FnExactCheapestWrongFalsely : Prop := fnExactCheapestRow.holds Try.pinned (OpenSpec.ofChange fnExactCheapestWrong)

/-- 'laws.FnExactAgrees': WHATEVER THE INPUT: true; the input reads as it did. -/
def fnExactAgreesSpec : ChangeSpec := { name := "fnExactAgrees", fn := fun _ => fun
  | [d1, d2] => { results := [.lit (.bool true)], args := [d1, d2] }
  | _ => none }
def fnExactAgreesRow : OpenClaim := { program := "ytbjnbhlpibadnaa", sum := "56c679ffe54fa9227accf83b3f04ca3c098d6925890f800100083eea5735cb2c", func := "loop.example/g00400/laws.FnExactAgrees", spec := "fnExactAgrees", unfollowed := true, recurses := true, apart := false }
def FnExactAgreesSaid : Prop := fnExactAgreesRow.holds Try.pinned (OpenSpec.ofChange fnExactAgreesSpec)

/-- ITS FALSE NEIGHBOUR: 'it returns false'. Refute it at one input. -/
def fnExactAgreesWrong : ChangeSpec := { name := "fnExactAgrees", fn := fun _ => fun
  | [d1, d2] => { results := [.lit (.bool false)], args := [d1, d2] }
  | _ => none }
def FnExactAgreesWrongFalsely : Prop := fnExactAgreesRow.holds Try.pinned (OpenSpec.ofChange fnExactAgreesWrong)

/-- 'laws.FnExactPlanGraph': WHATEVER THE INPUT: true; the input reads as it did. -/
def fnExactPlanGraphSpec : ChangeSpec := { name := "fnExactPlanGraph", fn := fun _ => fun
  | [d1, d2, d3, d4, d5] => { results := [.lit (.bool true)], args := [d1, d2, d3, d4, d5] }
  | _ => none }
def fnExactPlanGraphRow : OpenClaim := { program := "ytbjnbhlpibadnaa", sum := "56c679ffe54fa9227accf83b3f04ca3c098d6925890f800100083eea5735cb2c", func := "loop.example/g00400/laws.FnExactPlanGraph", spec := "fnExactPlanGraph", unfollowed := true, recurses := true, named := ["math/bits.divideError", "math/bits.overflowError"], apart := false }
def FnExactPlanGraphSaid : Prop := fnExactPlanGraphRow.holds Try.pinned (OpenSpec.ofChange fnExactPlanGraphSpec)

/-- ITS FALSE NEIGHBOUR: 'it returns false'. Refute it at one input. -/
def fnExactPlanGraphWrong : ChangeSpec := { name := "fnExactPlanGraph", fn := fun _ => fun
  | [d1, d2, d3, d4, d5] => { results := [.lit (.bool false)], args := [d1, d2, d3, d4, d5] }
  | _ => none }
def FnExactPlanGraphWrongFalsely : Prop := fnExactPlanGraphRow.holds Try.pinned (OpenSpec.ofChange fnExactPlanGraphWrong)

/-- 'laws.FnExactMoves': WHATEVER THE INPUT: true; the input reads as it did. -/
def fnExactMovesSpec : ChangeSpec := { name := "fnExactMoves", fn := fun _ => fun
  | [d1, d2, d3, d4, d5] => { results := [.lit (.bool true)], args := [d1, d2, d3, d4, d5] }
  | _ => none }
def fnExactMovesRow : OpenClaim := { program := "ytbjnbhlpibadnaa", sum := "56c679ffe54fa9227accf83b3f04ca3c098d6925890f800100083eea5735cb2c", func := "loop.example/g00400/laws.FnExactMoves", spec := "fnExactMoves", unfollowed := true, recurses := true, named := ["math/bits.divideError", "math/bits.overflowError"], apart := false }
def FnExactMovesSaid : Prop := fnExactMovesRow.holds Try.pinned (OpenSpec.ofChange fnExactMovesSpec)

/-- ITS FALSE NEIGHBOUR: 'it returns false'. Refute it at one input. -/
def fnExactMovesWrong : ChangeSpec := { name := "fnExactMoves", fn := fun _ => fun
  | [d1, d2, d3, d4, d5] => { results := [.lit (.bool false)], args := [d1, d2, d3, d4, d5] }
  | _ => none }
def FnExactMovesWrongFalsely : Prop := fnExactMovesRow.holds Try.pinned (OpenSpec.ofChange fnExactMovesWrong)

/- THE SECOND FORM. 'bulk': how many values and letters a reading holds, each counted each time it is reached (what is shared counts as often as it is met; a slice's spare places count too). A statement '..UptoSaid' is the law's where the arguments, and the package variables that the reading takes, are together of bulk at most 1048576: NARROWER than '..Said'. Prove '..Said' where nothing that the law and all that it calls make is longer than what came in: it says more and counts as full. Else prove '..UptoSaid'. A law counts once. -/
mutual
def uptoBulk {H : Type} : DataW H → Nat
  | .lit (.string bytes) => bytes.length + 1
  | .lit _ => 1
  | .nil => 1
  | .ptr d => uptoBulk d + 1
  | .slice elems spare => uptoBulkAll elems + uptoBulkAll spare + 1
  | .agg parts => uptoBulkAll parts + 1
  | .iface _ d => uptoBulk d + 1
  | .map entries => uptoBulkEntries entries + 1
  | .held _ => 1
def uptoBulkAll {H : Type} : List (DataW H) → Nat
  | [] => 0
  | d :: r => uptoBulk d + uptoBulkAll r
def uptoBulkEntries {H : Type} : List (Lit × DataW H) → Nat
  | [] => 0
  | x :: r => uptoBulkEntry x + uptoBulkEntries r
def uptoBulkEntry {H : Type} : Lit × DataW H → Nat
  | (.string bytes, d) => bytes.length + uptoBulk d + 1
  | (_, d) => uptoBulk d + 1
 end
def uptoSmall : (H : Type) → List (DataW H) → Bool := fun _ ds => decide (uptoBulkAll ds ≤ 1048576)
def OpenSpec.upto (s : _root_.Go.ChangeSpec) : _root_.Go.OpenSpec := { _root_.Go.OpenSpec.ofChange s with cond := some uptoSmall }

/-- 'laws.FnExactPush', WHERE WHAT IT READS IS OF BULK AT MOST 1048576: true; the input reads as it did. -/
def fnExactPushUptoRow : OpenClaim := { program := "ytbjnbhlpibadnaa", sum := "56c679ffe54fa9227accf83b3f04ca3c098d6925890f800100083eea5735cb2c", func := "loop.example/g00400/laws.FnExactPush", spec := "fnExactPush", apart := false, narrowed := true }
def FnExactPushUptoSaid : Prop := fnExactPushUptoRow.holds Try.pinned (OpenSpec.upto fnExactPushSpec)

/-- 'laws.FnExactRing', WHERE WHAT IT READS IS OF BULK AT MOST 1048576: true; the input reads as it did. -/
def fnExactRingUptoRow : OpenClaim := { program := "ytbjnbhlpibadnaa", sum := "56c679ffe54fa9227accf83b3f04ca3c098d6925890f800100083eea5735cb2c", func := "loop.example/g00400/laws.FnExactRing", spec := "fnExactRing", apart := false, narrowed := true }
def FnExactRingUptoSaid : Prop := fnExactRingUptoRow.holds Try.pinned (OpenSpec.upto fnExactRingSpec)

/-- 'laws.FnExactCheapest', WHERE WHAT IT READS IS OF BULK AT MOST 1048576: true; the input reads as it did. -/
def fnExactCheapestUptoRow : OpenClaim := { program := "ytbjnbhlpibadnaa", sum := "56c679ffe54fa9227accf83b3f04ca3c098d6925890f800100083eea5735cb2c", func := "loop.example/g00400/laws.FnExactCheapest", spec := "fnExactCheapest", apart := false, narrowed := true }
def FnExactCheapestUptoSaid : Prop := fnExactCheapestUptoRow.holds Try.pinned (OpenSpec.upto fnExactCheapestSpec)

/-- 'laws.FnExactAgrees', WHERE WHAT IT READS IS OF BULK AT MOST 1048576: true; the input reads as it did. -/
def fnExactAgreesUptoRow : OpenClaim := { program := "ytbjnbhlpibadnaa", sum := "56c679ffe54fa9227accf83b3f04ca3c098d6925890f800100083eea5735cb2c", func := "loop.example/g00400/laws.FnExactAgrees", spec := "fnExactAgrees", unfollowed := true, recurses := true, apart := false, narrowed := true }
def FnExactAgreesUptoSaid : Prop := fnExactAgreesUptoRow.holds Try.pinned (OpenSpec.upto fnExactAgreesSpec)

/-- 'laws.FnExactPlanGraph', WHERE WHAT IT READS IS OF BULK AT MOST 1048576: true; the input reads as it did. -/
def fnExactPlanGraphUptoRow : OpenClaim := { program := "ytbjnbhlpibadnaa", sum := "56c679ffe54fa9227accf83b3f04ca3c098d6925890f800100083eea5735cb2c", func := "loop.example/g00400/laws.FnExactPlanGraph", spec := "fnExactPlanGraph", unfollowed := true, recurses := true, named := ["math/bits.divideError", "math/bits.overflowError"], apart := false, narrowed := true }
def FnExactPlanGraphUptoSaid : Prop := fnExactPlanGraphUptoRow.holds Try.pinned (OpenSpec.upto fnExactPlanGraphSpec)

/-- 'laws.FnExactMoves', WHERE WHAT IT READS IS OF BULK AT MOST 1048576: true; the input reads as it did. -/
def fnExactMovesUptoRow : OpenClaim := { program := "ytbjnbhlpibadnaa", sum := "56c679ffe54fa9227accf83b3f04ca3c098d6925890f800100083eea5735cb2c", func := "loop.example/g00400/laws.FnExactMoves", spec := "fnExactMoves", unfollowed := true, recurses := true, named := ["math/bits.divideError", "math/bits.overflowError"], apart := false, narrowed := true }
def FnExactMovesUptoSaid : Prop := fnExactMovesUptoRow.holds Try.pinned (OpenSpec.upto fnExactMovesSpec)

end Rows
end Go.Proofs.Ytbjnbhlpibadnaa
