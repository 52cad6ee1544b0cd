/-
  No cell of these rows narrows 'for every input' (looked for: loops, veiled, ifaces, maps, wideKeys, modest, calm, conditions, laid).
  DERIVED. THE GIVEN ROWS OF THIS SEAT. 12 by the template 'for every input the law returns true; each argument reads behind the call as it read before'; 0 by the template 'total and deterministic' (their statements: YteklopbnkclfaaaTotals.lean).
  GIVEN WITH THE SEED: the statements are not yours to turn. If you find one false, say at which input.
  Laid BY PROGRAM, IN A SANDBOX (cutbox-rows.mjs): the forced cells as the released guide's own fill.sh prints them over the translation f579f60e16b7285e… (all of the seat's roots in one cut). By AI agents, Wed Nov 11 2026. No macro, syntax, notation, axiom, sorry.
-/
import Derived.Test.YteklopbnkclfaaaChecked
import GoSem.Claim
import GoSem.ClaimJoined
import GoSem.ClaimMapViews
import Derived.JoinedTies
import Derived.KernelRfl
namespace Go.Proofs.Yteklopbnkclfaaa
/- THE CELL 'sum', in the pinned program and in every row, IS THE sha256 OF THE DUMP (.gsa) THAT YteklopbnkclfaaaProg.lean LOADS. Nothing in Lean hashes anything: it is a label: what it is worth is what the hold of that sum in a sandbox is worth. -/
noncomputable def Try.pinned : Pinned := { name := "yteklopbnkclfaaa", sum := "f579f60e16b7285e2c6e30eee39d6be718e8317a0bba7c836c5555aeb24b88bc", checked := Try.checked }
namespace Rows
def none {H : Type} : Left H := { results := [], args := [] }

/-- 'laws.FnExactMovesCost': WHATEVER THE INPUT: true; the input reads as it did. -/
def fnExactMovesCostSpec : ChangeSpec := { name := "fnExactMovesCost", fn := fun _ => fun
  | [d] => { results := [.lit (.bool true)], args := [d] }
  | _ => none }
def fnExactMovesCostRow : OpenClaim := { program := "yteklopbnkclfaaa", sum := "f579f60e16b7285e2c6e30eee39d6be718e8317a0bba7c836c5555aeb24b88bc", func := "loop.example/g00400/laws.FnExactMovesCost", spec := "fnExactMovesCost", apart := false }
def FnExactMovesCostSaid : Prop := fnExactMovesCostRow.holds Try.pinned (OpenSpec.ofChange fnExactMovesCostSpec)

/-- ITS FALSE NEIGHBOUR: 'it returns false'. Refute it at one input. -/
def fnExactMovesCostWrong : ChangeSpec := { name := "fnExactMovesCost", fn := fun _ => fun
  | [d] => { results := [.lit (.bool false)], args := [d] }
  | _ => none }
def FnExactMovesCostWrongFalsely : Prop := fnExactMovesCostRow.holds Try.pinned (OpenSpec.ofChange fnExactMovesCostWrong)

/-- 'laws.FnExactGraphOk': WHATEVER THE INPUT: true; the input reads as it did. -/
def fnExactGraphOkSpec : ChangeSpec := { name := "fnExactGraphOk", fn := fun _ => fun
  | [d] => { results := [.lit (.bool true)], args := [d] }
  | _ => none }
def fnExactGraphOkRow : OpenClaim := { program := "yteklopbnkclfaaa", sum := "f579f60e16b7285e2c6e30eee39d6be718e8317a0bba7c836c5555aeb24b88bc", func := "loop.example/g00400/laws.FnExactGraphOk", spec := "fnExactGraphOk", apart := false }
def FnExactGraphOkSaid : Prop := fnExactGraphOkRow.holds Try.pinned (OpenSpec.ofChange fnExactGraphOkSpec)

/-- ITS FALSE NEIGHBOUR: 'it returns false'. Refute it at one input. -/
def fnExactGraphOkWrong : ChangeSpec := { name := "fnExactGraphOk", fn := fun _ => fun
  | [d] => { results := [.lit (.bool false)], args := [d] }
  | _ => none }
def FnExactGraphOkWrongFalsely : Prop := fnExactGraphOkRow.holds Try.pinned (OpenSpec.ofChange fnExactGraphOkWrong)

/-- 'laws.FnExactFlowOk': WHATEVER THE INPUT: true; the input reads as it did. -/
def fnExactFlowOkSpec : ChangeSpec := { name := "fnExactFlowOk", fn := fun _ => fun
  | [d1, d2] => { results := [.lit (.bool true)], args := [d1, d2] }
  | _ => none }
def fnExactFlowOkRow : OpenClaim := { program := "yteklopbnkclfaaa", sum := "f579f60e16b7285e2c6e30eee39d6be718e8317a0bba7c836c5555aeb24b88bc", func := "loop.example/g00400/laws.FnExactFlowOk", spec := "fnExactFlowOk", apart := false }
def FnExactFlowOkSaid : Prop := fnExactFlowOkRow.holds Try.pinned (OpenSpec.ofChange fnExactFlowOkSpec)

/-- ITS FALSE NEIGHBOUR: 'it returns false'. Refute it at one input. -/
def fnExactFlowOkWrong : ChangeSpec := { name := "fnExactFlowOk", fn := fun _ => fun
  | [d1, d2] => { results := [.lit (.bool false)], args := [d1, d2] }
  | _ => none }
def FnExactFlowOkWrongFalsely : Prop := fnExactFlowOkRow.holds Try.pinned (OpenSpec.ofChange fnExactFlowOkWrong)

/-- 'laws.FnExactCost': WHATEVER THE INPUT: true; the input reads as it did. -/
def fnExactCostSpec : ChangeSpec := { name := "fnExactCost", fn := fun _ => fun
  | [d1, d2] => { results := [.lit (.bool true)], args := [d1, d2] }
  | _ => none }
def fnExactCostRow : OpenClaim := { program := "yteklopbnkclfaaa", sum := "f579f60e16b7285e2c6e30eee39d6be718e8317a0bba7c836c5555aeb24b88bc", func := "loop.example/g00400/laws.FnExactCost", spec := "fnExactCost", apart := false }
def FnExactCostSaid : Prop := fnExactCostRow.holds Try.pinned (OpenSpec.ofChange fnExactCostSpec)

/-- ITS FALSE NEIGHBOUR: 'it returns false'. Refute it at one input. -/
def fnExactCostWrong : ChangeSpec := { name := "fnExactCost", fn := fun _ => fun
  | [d1, d2] => { results := [.lit (.bool false)], args := [d1, d2] }
  | _ => none }
def FnExactCostWrongFalsely : Prop := fnExactCostRow.holds Try.pinned (OpenSpec.ofChange fnExactCostWrong)

/-- 'laws.FnExactRing': WHATEVER THE INPUT: true; the input reads as it did. -/
def fnExactRingSpec : ChangeSpec := { name := "fnExactRing", fn := fun _ => fun
  | [d1, d2] => { results := [.lit (.bool true)], args := [d1, d2] }
  | _ => none }
def fnExactRingRow : OpenClaim := { program := "yteklopbnkclfaaa", sum := "f579f60e16b7285e2c6e30eee39d6be718e8317a0bba7c836c5555aeb24b88bc", func := "loop.example/g00400/laws.FnExactRing", spec := "fnExactRing", apart := false }
def FnExactRingSaid : Prop := fnExactRingRow.holds Try.pinned (OpenSpec.ofChange fnExactRingSpec)

/-- ITS FALSE NEIGHBOUR: 'it returns false'. Refute it at one input. -/
def fnExactRingWrong : ChangeSpec := { name := "fnExactRing", fn := fun _ => fun
  | [d1, d2] => { results := [.lit (.bool false)], args := [d1, d2] }
  | _ => none }
def FnExactRingWrongFalsely : Prop := fnExactRingRow.holds Try.pinned (OpenSpec.ofChange fnExactRingWrong)

/-- 'laws.FnExactPush': WHATEVER THE INPUT: true; the input reads as it did. -/
def fnExactPushSpec : ChangeSpec := { name := "fnExactPush", fn := fun _ => fun
  | [d1, d2, d3] => { results := [.lit (.bool true)], args := [d1, d2, d3] }
  | _ => none }
def fnExactPushRow : OpenClaim := { program := "yteklopbnkclfaaa", sum := "f579f60e16b7285e2c6e30eee39d6be718e8317a0bba7c836c5555aeb24b88bc", func := "loop.example/g00400/laws.FnExactPush", spec := "fnExactPush", apart := false }
def FnExactPushSaid : Prop := fnExactPushRow.holds Try.pinned (OpenSpec.ofChange fnExactPushSpec)

/-- ITS FALSE NEIGHBOUR: 'it returns false'. Refute it at one input. -/
def fnExactPushWrong : ChangeSpec := { name := "fnExactPush", fn := fun _ => fun
  | [d1, d2, d3] => { results := [.lit (.bool false)], args := [d1, d2, d3] }
  | _ => none }
def FnExactPushWrongFalsely : Prop := fnExactPushRow.holds Try.pinned (OpenSpec.ofChange fnExactPushWrong)

/-- 'laws.FnExactCheapest': WHATEVER THE INPUT: true; the input reads as it did. -/
def fnExactCheapestSpec : ChangeSpec := { name := "fnExactCheapest", fn := fun _ => fun
  | [d] => { results := [.lit (.bool true)], args := [d] }
  | _ => none }
def fnExactCheapestRow : OpenClaim := { program := "yteklopbnkclfaaa", sum := "f579f60e16b7285e2c6e30eee39d6be718e8317a0bba7c836c5555aeb24b88bc", func := "loop.example/g00400/laws.FnExactCheapest", spec := "fnExactCheapest", apart := false }
def FnExactCheapestSaid : Prop := fnExactCheapestRow.holds Try.pinned (OpenSpec.ofChange fnExactCheapestSpec)

/-- ITS FALSE NEIGHBOUR: 'it returns false'. Refute it at one input. -/
def fnExactCheapestWrong : ChangeSpec := { name := "fnExactCheapest", fn := fun _ => fun
  | [d] => { results := [.lit (.bool false)], args := [d] }
  | _ => none }
def FnExactCheapestWrongFalsely : Prop := fnExactCheapestRow.holds Try.pinned (OpenSpec.ofChange fnExactCheapestWrong)

/-- 'laws.FnExactAllow': WHATEVER THE INPUT: true; the input reads as it did. -/
def fnExactAllowSpec : ChangeSpec := { name := "fnExactAllow", fn := fun _ => fun
  | [d1, d2, d3, d4, d5, d6, d7] => { results := [.lit (.bool true)], args := [d1, d2, d3, d4, d5, d6, d7] }
  | _ => none }
def fnExactAllowRow : OpenClaim := { program := "yteklopbnkclfaaa", sum := "f579f60e16b7285e2c6e30eee39d6be718e8317a0bba7c836c5555aeb24b88bc", func := "loop.example/g00400/laws.FnExactAllow", spec := "fnExactAllow", apart := false }
def FnExactAllowSaid : Prop := fnExactAllowRow.holds Try.pinned (OpenSpec.ofChange fnExactAllowSpec)

/-- ITS FALSE NEIGHBOUR: 'it returns false'. Refute it at one input. -/
def fnExactAllowWrong : ChangeSpec := { name := "fnExactAllow", fn := fun _ => fun
  | [d1, d2, d3, d4, d5, d6, d7] => { results := [.lit (.bool false)], args := [d1, d2, d3, d4, d5, d6, d7] }
  | _ => none }
def FnExactAllowWrongFalsely : Prop := fnExactAllowRow.holds Try.pinned (OpenSpec.ofChange fnExactAllowWrong)

/-- 'laws.FnScore': WHATEVER THE INPUT: true; the input reads as it did. -/
def fnScoreSpec : ChangeSpec := { name := "fnScore", fn := fun _ => fun
  | [d] => { results := [.lit (.bool true)], args := [d] }
  | _ => none }
def fnScoreRow : OpenClaim := { program := "yteklopbnkclfaaa", sum := "f579f60e16b7285e2c6e30eee39d6be718e8317a0bba7c836c5555aeb24b88bc", func := "loop.example/g00400/laws.FnScore", spec := "fnScore", apart := false }
def FnScoreSaid : Prop := fnScoreRow.holds Try.pinned (OpenSpec.ofChange fnScoreSpec)

/-- ITS FALSE NEIGHBOUR: 'it returns false'. Refute it at one input. -/
def fnScoreWrong : ChangeSpec := { name := "fnScore", fn := fun _ => fun
  | [d] => { results := [.lit (.bool false)], args := [d] }
  | _ => none }
def FnScoreWrongFalsely : Prop := fnScoreRow.holds Try.pinned (OpenSpec.ofChange fnScoreWrong)

/-- 'laws.FnAllow': WHATEVER THE INPUT: true; the input reads as it did. -/
def fnAllowSpec : ChangeSpec := { name := "fnAllow", fn := fun _ => fun
  | [d] => { results := [.lit (.bool true)], args := [d] }
  | _ => none }
def fnAllowRow : OpenClaim := { program := "yteklopbnkclfaaa", sum := "f579f60e16b7285e2c6e30eee39d6be718e8317a0bba7c836c5555aeb24b88bc", func := "loop.example/g00400/laws.FnAllow", spec := "fnAllow", apart := false }
def FnAllowSaid : Prop := fnAllowRow.holds Try.pinned (OpenSpec.ofChange fnAllowSpec)

/-- ITS FALSE NEIGHBOUR: 'it returns false'. Refute it at one input. -/
def fnAllowWrong : ChangeSpec := { name := "fnAllow", fn := fun _ => fun
  | [d] => { results := [.lit (.bool false)], args := [d] }
  | _ => none }
def FnAllowWrongFalsely : Prop := fnAllowRow.holds Try.pinned (OpenSpec.ofChange fnAllowWrong)

/-- 'laws.FnExactEnds': WHATEVER THE INPUT: true; the input reads as it did. -/
def fnExactEndsSpec : ChangeSpec := { name := "fnExactEnds", fn := fun _ => fun
  | [d1, d2, d3] => { results := [.lit (.bool true)], args := [d1, d2, d3] }
  | _ => none }
def fnExactEndsRow : OpenClaim := { program := "yteklopbnkclfaaa", sum := "f579f60e16b7285e2c6e30eee39d6be718e8317a0bba7c836c5555aeb24b88bc", func := "loop.example/g00400/laws.FnExactEnds", spec := "fnExactEnds", named := ["math/bits.divideError", "math/bits.overflowError"], apart := false }
def FnExactEndsSaid : Prop := fnExactEndsRow.holds Try.pinned (OpenSpec.ofChange fnExactEndsSpec)

/-- ITS FALSE NEIGHBOUR: 'it returns false'. Refute it at one input. -/
def fnExactEndsWrong : ChangeSpec := { name := "fnExactEnds", fn := fun _ => fun
  | [d1, d2, d3] => { results := [.lit (.bool false)], args := [d1, d2, d3] }
  | _ => none }
def FnExactEndsWrongFalsely : Prop := fnExactEndsRow.holds Try.pinned (OpenSpec.ofChange fnExactEndsWrong)

/-- 'laws.FnExactNextPpm': WHATEVER THE INPUT: true; the input reads as it did. -/
def fnExactNextPpmSpec : ChangeSpec := { name := "fnExactNextPpm", fn := fun _ => fun
  | [d1, d2] => { results := [.lit (.bool true)], args := [d1, d2] }
  | _ => none }
def fnExactNextPpmRow : OpenClaim := { program := "yteklopbnkclfaaa", sum := "f579f60e16b7285e2c6e30eee39d6be718e8317a0bba7c836c5555aeb24b88bc", func := "loop.example/g00400/laws.FnExactNextPpm", spec := "fnExactNextPpm", named := ["math/bits.divideError", "math/bits.overflowError"], apart := false }
def FnExactNextPpmSaid : Prop := fnExactNextPpmRow.holds Try.pinned (OpenSpec.ofChange fnExactNextPpmSpec)

/-- ITS FALSE NEIGHBOUR: 'it returns false'. Refute it at one input. -/
def fnExactNextPpmWrong : ChangeSpec := { name := "fnExactNextPpm", fn := fun _ => fun
  | [d1, d2] => { results := [.lit (.bool false)], args := [d1, d2] }
  | _ => none }
def FnExactNextPpmWrongFalsely : Prop := fnExactNextPpmRow.holds Try.pinned (OpenSpec.ofChange fnExactNextPpmWrong)

/- THE SECOND FORM. 'bulk': how many values and letters a reading holds, each counted each time it is reached (what is shared counts as often as it is met; a slice's spare places count too). A statement '..UptoSaid' is the law's where the arguments, and the package variables that the reading takes, are together of bulk at most 1048576: NARROWER than '..Said'. Prove '..Said' where nothing that the law and all that it calls make is longer than what came in: it says more and counts as full. Else prove '..UptoSaid'. A law counts once. -/
mutual
def uptoBulk {H : Type} : DataW H → Nat
  | .lit (.string bytes) => bytes.length + 1
  | .lit _ => 1
  | .nil => 1
  | .ptr d => uptoBulk d + 1
  | .slice elems spare => uptoBulkAll elems + uptoBulkAll spare + 1
  | .agg parts => uptoBulkAll parts + 1
  | .iface _ d => uptoBulk d + 1
  | .map entries => uptoBulkEntries entries + 1
  | .held _ => 1
def uptoBulkAll {H : Type} : List (DataW H) → Nat
  | [] => 0
  | d :: r => uptoBulk d + uptoBulkAll r
def uptoBulkEntries {H : Type} : List (Lit × DataW H) → Nat
  | [] => 0
  | x :: r => uptoBulkEntry x + uptoBulkEntries r
def uptoBulkEntry {H : Type} : Lit × DataW H → Nat
  | (.string bytes, d) => bytes.length + uptoBulk d + 1
  | (_, d) => uptoBulk d + 1
 end
def uptoSmall : (H : Type) → List (DataW H) → Bool := fun _ ds => decide (uptoBulkAll ds ≤ 1048576)
def OpenSpec.upto (s : _root_.Go.ChangeSpec) : _root_.Go.OpenSpec := { _root_.Go.OpenSpec.ofChange s with cond := some uptoSmall }

/-- 'laws.FnExactMovesCost', WHERE WHAT IT READS IS OF BULK AT MOST 1048576: true; the input reads as it did. -/
def fnExactMovesCostUptoRow : OpenClaim := { program := "yteklopbnkclfaaa", sum := "f579f60e16b7285e2c6e30eee39d6be718e8317a0bba7c836c5555aeb24b88bc", func := "loop.example/g00400/laws.FnExactMovesCost", spec := "fnExactMovesCost", apart := false, narrowed := true }
def FnExactMovesCostUptoSaid : Prop := fnExactMovesCostUptoRow.holds Try.pinned (OpenSpec.upto fnExactMovesCostSpec)

/-- 'laws.FnExactGraphOk', WHERE WHAT IT READS IS OF BULK AT MOST 1048576: true; the input reads as it did. -/
def fnExactGraphOkUptoRow : OpenClaim := { program := "yteklopbnkclfaaa", sum := "f579f60e16b7285e2c6e30eee39d6be718e8317a0bba7c836c5555aeb24b88bc", func := "loop.example/g00400/laws.FnExactGraphOk", spec := "fnExactGraphOk", apart := false, narrowed := true }
def FnExactGraphOkUptoSaid : Prop := fnExactGraphOkUptoRow.holds Try.pinned (OpenSpec.upto fnExactGraphOkSpec)

/-- 'laws.FnExactFlowOk', WHERE WHAT IT READS IS OF BULK AT MOST 1048576: true; the input reads as it did. -/
def fnExactFlowOkUptoRow : OpenClaim := { program := "yteklopbnkclfaaa", sum := "f579f60e16b7285e2c6e30eee39d6be718e8317a0bba7c836c5555aeb24b88bc", func := "loop.example/g00400/laws.FnExactFlowOk", spec := "fnExactFlowOk", apart := false, narrowed := true }
def FnExactFlowOkUptoSaid : Prop := fnExactFlowOkUptoRow.holds Try.pinned (OpenSpec.upto fnExactFlowOkSpec)

/-- 'laws.FnExactCost', WHERE WHAT IT READS IS OF BULK AT MOST 1048576: true; the input reads as it did. -/
def fnExactCostUptoRow : OpenClaim := { program := "yteklopbnkclfaaa", sum := "f579f60e16b7285e2c6e30eee39d6be718e8317a0bba7c836c5555aeb24b88bc", func := "loop.example/g00400/laws.FnExactCost", spec := "fnExactCost", apart := false, narrowed := true }
def FnExactCostUptoSaid : Prop := fnExactCostUptoRow.holds Try.pinned (OpenSpec.upto fnExactCostSpec)

/-- 'laws.FnExactRing', WHERE WHAT IT READS IS OF BULK AT MOST 1048576: true; the input reads as it did. -/
def fnExactRingUptoRow : OpenClaim := { program := "yteklopbnkclfaaa", sum := "f579f60e16b7285e2c6e30eee39d6be718e8317a0bba7c836c5555aeb24b88bc", func := "loop.example/g00400/laws.FnExactRing", spec := "fnExactRing", apart := false, narrowed := true }
def FnExactRingUptoSaid : Prop := fnExactRingUptoRow.holds Try.pinned (OpenSpec.upto fnExactRingSpec)

/-- 'laws.FnExactPush', WHERE WHAT IT READS IS OF BULK AT MOST 1048576: true; the input reads as it did. -/
def fnExactPushUptoRow : OpenClaim := { program := "yteklopbnkclfaaa", sum := "f579f60e16b7285e2c6e30eee39d6be718e8317a0bba7c836c5555aeb24b88bc", func := "loop.example/g00400/laws.FnExactPush", spec := "fnExactPush", apart := false, narrowed := true }
def FnExactPushUptoSaid : Prop := fnExactPushUptoRow.holds Try.pinned (OpenSpec.upto fnExactPushSpec)

/-- 'laws.FnExactCheapest', WHERE WHAT IT READS IS OF BULK AT MOST 1048576: true; the input reads as it did. -/
def fnExactCheapestUptoRow : OpenClaim := { program := "yteklopbnkclfaaa", sum := "f579f60e16b7285e2c6e30eee39d6be718e8317a0bba7c836c5555aeb24b88bc", func := "loop.example/g00400/laws.FnExactCheapest", spec := "fnExactCheapest", apart := false, narrowed := true }
def FnExactCheapestUptoSaid : Prop := fnExactCheapestUptoRow.holds Try.pinned (OpenSpec.upto fnExactCheapestSpec)

/-- 'laws.FnExactAllow', WHERE WHAT IT READS IS OF BULK AT MOST 1048576: true; the input reads as it did. -/
def fnExactAllowUptoRow : OpenClaim := { program := "yteklopbnkclfaaa", sum := "f579f60e16b7285e2c6e30eee39d6be718e8317a0bba7c836c5555aeb24b88bc", func := "loop.example/g00400/laws.FnExactAllow", spec := "fnExactAllow", apart := false, narrowed := true }
def FnExactAllowUptoSaid : Prop := fnExactAllowUptoRow.holds Try.pinned (OpenSpec.upto fnExactAllowSpec)

/-- 'laws.FnScore', WHERE WHAT IT READS IS OF BULK AT MOST 1048576: true; the input reads as it did. -/
def fnScoreUptoRow : OpenClaim := { program := "yteklopbnkclfaaa", sum := "f579f60e16b7285e2c6e30eee39d6be718e8317a0bba7c836c5555aeb24b88bc", func := "loop.example/g00400/laws.FnScore", spec := "fnScore", apart := false, narrowed := true }
def FnScoreUptoSaid : Prop := fnScoreUptoRow.holds Try.pinned (OpenSpec.upto fnScoreSpec)

/-- 'laws.FnAllow', WHERE WHAT IT READS IS OF BULK AT MOST 1048576: true; the input reads as it did. -/
def fnAllowUptoRow : OpenClaim := { program := "yteklopbnkclfaaa", sum := "f579f60e16b7285e2c6e30eee39d6be718e8317a0bba7c836c5555aeb24b88bc", func := "loop.example/g00400/laws.FnAllow", spec := "fnAllow", apart := false, narrowed := true }
def FnAllowUptoSaid : Prop := fnAllowUptoRow.holds Try.pinned (OpenSpec.upto fnAllowSpec)

/-- 'laws.FnExactEnds', WHERE WHAT IT READS IS OF BULK AT MOST 1048576: true; the input reads as it did. -/
def fnExactEndsUptoRow : OpenClaim := { program := "yteklopbnkclfaaa", sum := "f579f60e16b7285e2c6e30eee39d6be718e8317a0bba7c836c5555aeb24b88bc", func := "loop.example/g00400/laws.FnExactEnds", spec := "fnExactEnds", named := ["math/bits.divideError", "math/bits.overflowError"], apart := false, narrowed := true }
def FnExactEndsUptoSaid : Prop := fnExactEndsUptoRow.holds Try.pinned (OpenSpec.upto fnExactEndsSpec)

/-- 'laws.FnExactNextPpm', WHERE WHAT IT READS IS OF BULK AT MOST 1048576: true; the input reads as it did. -/
def fnExactNextPpmUptoRow : OpenClaim := { program := "yteklopbnkclfaaa", sum := "f579f60e16b7285e2c6e30eee39d6be718e8317a0bba7c836c5555aeb24b88bc", func := "loop.example/g00400/laws.FnExactNextPpm", spec := "fnExactNextPpm", named := ["math/bits.divideError", "math/bits.overflowError"], apart := false, narrowed := true }
def FnExactNextPpmUptoSaid : Prop := fnExactNextPpmUptoRow.holds Try.pinned (OpenSpec.upto fnExactNextPpmSpec)

end Rows
end Go.Proofs.Yteklopbnkclfaaa
