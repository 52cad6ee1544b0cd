/-
  No cell of these rows narrows 'for every input' (looked for: loops, veiled, ifaces, maps, wideKeys, modest, calm, conditions, laid).
  DERIVED. THE GIVEN ROWS OF THIS SEAT. 10 by the template 'for every input the law returns true; each argument reads behind the call as it read before'; 0 by the template 'total and deterministic' (their statements: YtigbjpllckgilaaTotals.lean).
  GIVEN WITH THE SEED: the statements are not yours to turn. If you find one false, say at which input.
  Laid BY PROGRAM, IN A SANDBOX (cutbox-rows.mjs): the forced cells as the released guide's own fill.sh prints them over the translation 9385c01176b08f04… (all of the seat's roots in one cut). By AI agents, Wed Nov 11 2026. No macro, syntax, notation, axiom, sorry.
-/
import Derived.Test.YtigbjpllckgilaaChecked
import GoSem.Claim
import GoSem.ClaimJoined
import GoSem.ClaimMapViews
import Derived.JoinedTies
import Derived.KernelRfl
namespace Go.Proofs.Ytigbjpllckgilaa
/- THE CELL 'sum', in the pinned program and in every row, IS THE sha256 OF THE DUMP (.gsa) THAT YtigbjpllckgilaaProg.lean LOADS. Nothing in Lean hashes anything: it is a label: what it is worth is what the hold of that sum in a sandbox is worth. -/
noncomputable def Try.pinned : Pinned := { name := "ytigbjpllckgilaa", sum := "9385c01176b08f0414ac3c8096ebcdc9246c457efca441152fd3280dd4cbbb97", checked := Try.checked }
namespace Rows
def none {H : Type} : Left H := { results := [], args := [] }

/-- 'laws.FnExactBookNew': WHATEVER THE INPUT: true; the input reads as it did. -/
def fnExactBookNewSpec : ChangeSpec := { name := "fnExactBookNew", fn := fun _ => fun
  | [] => { results := [.lit (.bool true)], args := [] }
  | _ => none }
def fnExactBookNewRow : OpenClaim := { program := "ytigbjpllckgilaa", sum := "9385c01176b08f0414ac3c8096ebcdc9246c457efca441152fd3280dd4cbbb97", func := "loop.example/g00400/laws.FnExactBookNew", spec := "fnExactBookNew", apart := false }
def FnExactBookNewSaid : Prop := fnExactBookNewRow.holds Try.pinned (OpenSpec.ofChange fnExactBookNewSpec)

/-- ITS FALSE NEIGHBOUR: 'it returns false'. Refute it at one input. -/
def fnExactBookNewWrong : ChangeSpec := { name := "fnExactBookNew", fn := fun _ => fun
  | [] => { results := [.lit (.bool false)], args := [] }
  | _ => none }
def FnExactBookNewWrongFalsely : Prop := fnExactBookNewRow.holds Try.pinned (OpenSpec.ofChange fnExactBookNewWrong)

/-- 'laws.FnExactBookOk': WHATEVER THE INPUT: true; the input reads as it did. -/
def fnExactBookOkSpec : ChangeSpec := { name := "fnExactBookOk", fn := fun _ => fun
  | [d] => { results := [.lit (.bool true)], args := [d] }
  | _ => none }
def fnExactBookOkRow : OpenClaim := { program := "ytigbjpllckgilaa", sum := "9385c01176b08f0414ac3c8096ebcdc9246c457efca441152fd3280dd4cbbb97", func := "loop.example/g00400/laws.FnExactBookOk", spec := "fnExactBookOk", unfollowed := true, recurses := true, apart := false }
def FnExactBookOkSaid : Prop := fnExactBookOkRow.holds Try.pinned (OpenSpec.ofChange fnExactBookOkSpec)

/-- ITS FALSE NEIGHBOUR: 'it returns false'. Refute it at one input. -/
def fnExactBookOkWrong : ChangeSpec := { name := "fnExactBookOk", fn := fun _ => fun
  | [d] => { results := [.lit (.bool false)], args := [d] }
  | _ => none }
def FnExactBookOkWrongFalsely : Prop := fnExactBookOkRow.holds Try.pinned (OpenSpec.ofChange fnExactBookOkWrong)

/-- 'laws.FnExactPick': WHATEVER THE INPUT: true; the input reads as it did. -/
def fnExactPickSpec : ChangeSpec := { name := "fnExactPick", fn := fun _ => fun
  | [d1, d2] => { results := [.lit (.bool true)], args := [d1, d2] }
  | _ => none }
def fnExactPickRow : OpenClaim := { program := "ytigbjpllckgilaa", sum := "9385c01176b08f0414ac3c8096ebcdc9246c457efca441152fd3280dd4cbbb97", func := "loop.example/g00400/laws.FnExactPick", spec := "fnExactPick", unfollowed := true, recurses := true, apart := false }
def FnExactPickSaid : Prop := fnExactPickRow.holds Try.pinned (OpenSpec.ofChange fnExactPickSpec)

/-- ITS FALSE NEIGHBOUR: 'it returns false'. Refute it at one input. -/
def fnExactPickWrong : ChangeSpec := { name := "fnExactPick", fn := fun _ => fun
  | [d1, d2] => { results := [.lit (.bool false)], args := [d1, d2] }
  | _ => none }
def FnExactPickWrongFalsely : Prop := fnExactPickRow.holds Try.pinned (OpenSpec.ofChange fnExactPickWrong)

/-- 'laws.FnExactSameBook': WHATEVER THE INPUT: true; the input reads as it did. -/
def fnExactSameBookSpec : ChangeSpec := { name := "fnExactSameBook", fn := fun _ => fun
  | [d1, d2] => { results := [.lit (.bool true)], args := [d1, d2] }
  | _ => none }
def fnExactSameBookRow : OpenClaim := { program := "ytigbjpllckgilaa", sum := "9385c01176b08f0414ac3c8096ebcdc9246c457efca441152fd3280dd4cbbb97", func := "loop.example/g00400/laws.FnExactSameBook", spec := "fnExactSameBook", unfollowed := true, recurses := true, apart := false }
def FnExactSameBookSaid : Prop := fnExactSameBookRow.holds Try.pinned (OpenSpec.ofChange fnExactSameBookSpec)

/-- ITS FALSE NEIGHBOUR: 'it returns false'. Refute it at one input. -/
def fnExactSameBookWrong : ChangeSpec := { name := "fnExactSameBook", fn := fun _ => fun
  | [d1, d2] => { results := [.lit (.bool false)], args := [d1, d2] }
  | _ => none }
def FnExactSameBookWrongFalsely : Prop := fnExactSameBookRow.holds Try.pinned (OpenSpec.ofChange fnExactSameBookWrong)

/-- 'laws.FnExactPricesOk': WHATEVER THE INPUT: true; the input reads as it did. -/
def fnExactPricesOkSpec : ChangeSpec := { name := "fnExactPricesOk", fn := fun _ => fun
  | [d1, d2] => { results := [.lit (.bool true)], args := [d1, d2] }
  | _ => none }
def fnExactPricesOkRow : OpenClaim := { program := "ytigbjpllckgilaa", sum := "9385c01176b08f0414ac3c8096ebcdc9246c457efca441152fd3280dd4cbbb97", func := "loop.example/g00400/laws.FnExactPricesOk", spec := "fnExactPricesOk", unfollowed := true, recurses := true, apart := false }
def FnExactPricesOkSaid : Prop := fnExactPricesOkRow.holds Try.pinned (OpenSpec.ofChange fnExactPricesOkSpec)

/-- ITS FALSE NEIGHBOUR: 'it returns false'. Refute it at one input. -/
def fnExactPricesOkWrong : ChangeSpec := { name := "fnExactPricesOk", fn := fun _ => fun
  | [d1, d2] => { results := [.lit (.bool false)], args := [d1, d2] }
  | _ => none }
def FnExactPricesOkWrongFalsely : Prop := fnExactPricesOkRow.holds Try.pinned (OpenSpec.ofChange fnExactPricesOkWrong)

/-- 'laws.FnExactAgrees': WHATEVER THE INPUT: true; the input reads as it did. -/
def fnExactAgreesSpec : ChangeSpec := { name := "fnExactAgrees", fn := fun _ => fun
  | [d1, d2] => { results := [.lit (.bool true)], args := [d1, d2] }
  | _ => none }
def fnExactAgreesRow : OpenClaim := { program := "ytigbjpllckgilaa", sum := "9385c01176b08f0414ac3c8096ebcdc9246c457efca441152fd3280dd4cbbb97", func := "loop.example/g00400/laws.FnExactAgrees", spec := "fnExactAgrees", unfollowed := true, recurses := true, apart := false }
def FnExactAgreesSaid : Prop := fnExactAgreesRow.holds Try.pinned (OpenSpec.ofChange fnExactAgreesSpec)

/-- ITS FALSE NEIGHBOUR: 'it returns false'. Refute it at one input. -/
def fnExactAgreesWrong : ChangeSpec := { name := "fnExactAgrees", fn := fun _ => fun
  | [d1, d2] => { results := [.lit (.bool false)], args := [d1, d2] }
  | _ => none }
def FnExactAgreesWrongFalsely : Prop := fnExactAgreesRow.holds Try.pinned (OpenSpec.ofChange fnExactAgreesWrong)

/-- 'laws.FnExactSteady': WHATEVER THE INPUT: true; the input reads as it did. -/
def fnExactSteadySpec : ChangeSpec := { name := "fnExactSteady", fn := fun _ => fun
  | [d1, d2] => { results := [.lit (.bool true)], args := [d1, d2] }
  | _ => none }
def fnExactSteadyRow : OpenClaim := { program := "ytigbjpllckgilaa", sum := "9385c01176b08f0414ac3c8096ebcdc9246c457efca441152fd3280dd4cbbb97", func := "loop.example/g00400/laws.FnExactSteady", spec := "fnExactSteady", unfollowed := true, recurses := true, named := ["math/bits.divideError", "math/bits.overflowError"], apart := false }
def FnExactSteadySaid : Prop := fnExactSteadyRow.holds Try.pinned (OpenSpec.ofChange fnExactSteadySpec)

/-- ITS FALSE NEIGHBOUR: 'it returns false'. Refute it at one input. -/
def fnExactSteadyWrong : ChangeSpec := { name := "fnExactSteady", fn := fun _ => fun
  | [d1, d2] => { results := [.lit (.bool false)], args := [d1, d2] }
  | _ => none }
def FnExactSteadyWrongFalsely : Prop := fnExactSteadyRow.holds Try.pinned (OpenSpec.ofChange fnExactSteadyWrong)

/-- 'laws.FnExactTurns': WHATEVER THE INPUT: true; the input reads as it did. -/
def fnExactTurnsSpec : ChangeSpec := { name := "fnExactTurns", fn := fun _ => fun
  | [d1, d2] => { results := [.lit (.bool true)], args := [d1, d2] }
  | _ => none }
def fnExactTurnsRow : OpenClaim := { program := "ytigbjpllckgilaa", sum := "9385c01176b08f0414ac3c8096ebcdc9246c457efca441152fd3280dd4cbbb97", func := "loop.example/g00400/laws.FnExactTurns", spec := "fnExactTurns", unfollowed := true, recurses := true, named := ["math/bits.divideError", "math/bits.overflowError"], apart := false }
def FnExactTurnsSaid : Prop := fnExactTurnsRow.holds Try.pinned (OpenSpec.ofChange fnExactTurnsSpec)

/-- ITS FALSE NEIGHBOUR: 'it returns false'. Refute it at one input. -/
def fnExactTurnsWrong : ChangeSpec := { name := "fnExactTurns", fn := fun _ => fun
  | [d1, d2] => { results := [.lit (.bool false)], args := [d1, d2] }
  | _ => none }
def FnExactTurnsWrongFalsely : Prop := fnExactTurnsRow.holds Try.pinned (OpenSpec.ofChange fnExactTurnsWrong)

/-- 'laws.FnExactPlanGraph': WHATEVER THE INPUT: true; the input reads as it did. -/
def fnExactPlanGraphSpec : ChangeSpec := { name := "fnExactPlanGraph", fn := fun _ => fun
  | [d1, d2, d3, d4, d5] => { results := [.lit (.bool true)], args := [d1, d2, d3, d4, d5] }
  | _ => none }
def fnExactPlanGraphRow : OpenClaim := { program := "ytigbjpllckgilaa", sum := "9385c01176b08f0414ac3c8096ebcdc9246c457efca441152fd3280dd4cbbb97", func := "loop.example/g00400/laws.FnExactPlanGraph", spec := "fnExactPlanGraph", unfollowed := true, recurses := true, named := ["math/bits.divideError", "math/bits.overflowError"], apart := false }
def FnExactPlanGraphSaid : Prop := fnExactPlanGraphRow.holds Try.pinned (OpenSpec.ofChange fnExactPlanGraphSpec)

/-- ITS FALSE NEIGHBOUR: 'it returns false'. Refute it at one input. -/
def fnExactPlanGraphWrong : ChangeSpec := { name := "fnExactPlanGraph", fn := fun _ => fun
  | [d1, d2, d3, d4, d5] => { results := [.lit (.bool false)], args := [d1, d2, d3, d4, d5] }
  | _ => none }
def FnExactPlanGraphWrongFalsely : Prop := fnExactPlanGraphRow.holds Try.pinned (OpenSpec.ofChange fnExactPlanGraphWrong)

/-- 'laws.FnExactMoves': WHATEVER THE INPUT: true; the input reads as it did. -/
def fnExactMovesSpec : ChangeSpec := { name := "fnExactMoves", fn := fun _ => fun
  | [d1, d2, d3, d4, d5] => { results := [.lit (.bool true)], args := [d1, d2, d3, d4, d5] }
  | _ => none }
def fnExactMovesRow : OpenClaim := { program := "ytigbjpllckgilaa", sum := "9385c01176b08f0414ac3c8096ebcdc9246c457efca441152fd3280dd4cbbb97", func := "loop.example/g00400/laws.FnExactMoves", spec := "fnExactMoves", unfollowed := true, recurses := true, named := ["math/bits.divideError", "math/bits.overflowError"], apart := false }
def FnExactMovesSaid : Prop := fnExactMovesRow.holds Try.pinned (OpenSpec.ofChange fnExactMovesSpec)

/-- ITS FALSE NEIGHBOUR: 'it returns false'. Refute it at one input. -/
def fnExactMovesWrong : ChangeSpec := { name := "fnExactMoves", fn := fun _ => fun
  | [d1, d2, d3, d4, d5] => { results := [.lit (.bool false)], args := [d1, d2, d3, d4, d5] }
  | _ => none }
def FnExactMovesWrongFalsely : Prop := fnExactMovesRow.holds Try.pinned (OpenSpec.ofChange fnExactMovesWrong)

/- THE SECOND FORM. 'bulk': how many values and letters a reading holds, each counted each time it is reached (what is shared counts as often as it is met; a slice's spare places count too). A statement '..UptoSaid' is the law's where the arguments, and the package variables that the reading takes, are together of bulk at most 1048576: NARROWER than '..Said'. Prove '..Said' where nothing that the law and all that it calls make is longer than what came in: it says more and counts as full. Else prove '..UptoSaid'. A law counts once. -/
mutual
def uptoBulk {H : Type} : DataW H → Nat
  | .lit (.string bytes) => bytes.length + 1
  | .lit _ => 1
  | .nil => 1
  | .ptr d => uptoBulk d + 1
  | .slice elems spare => uptoBulkAll elems + uptoBulkAll spare + 1
  | .agg parts => uptoBulkAll parts + 1
  | .iface _ d => uptoBulk d + 1
  | .map entries => uptoBulkEntries entries + 1
  | .held _ => 1
def uptoBulkAll {H : Type} : List (DataW H) → Nat
  | [] => 0
  | d :: r => uptoBulk d + uptoBulkAll r
def uptoBulkEntries {H : Type} : List (Lit × DataW H) → Nat
  | [] => 0
  | x :: r => uptoBulkEntry x + uptoBulkEntries r
def uptoBulkEntry {H : Type} : Lit × DataW H → Nat
  | (.string bytes, d) => bytes.length + uptoBulk d + 1
  | (_, d) => uptoBulk d + 1
 end
def uptoSmall : (H : Type) → List (DataW H) → Bool := fun _ ds => decide (uptoBulkAll ds ≤ 1048576)
def OpenSpec.upto (s : _root_.Go.ChangeSpec) : _root_.Go.OpenSpec := { _root_.Go.OpenSpec.ofChange s with cond := some uptoSmall }

/-- 'laws.FnExactBookNew', WHERE WHAT IT READS IS OF BULK AT MOST 1048576: true; the input reads as it did. -/
def fnExactBookNewUptoRow : OpenClaim := { program := "ytigbjpllckgilaa", sum := "9385c01176b08f0414ac3c8096ebcdc9246c457efca441152fd3280dd4cbbb97", func := "loop.example/g00400/laws.FnExactBookNew", spec := "fnExactBookNew", apart := false, narrowed := true }
def FnExactBookNewUptoSaid : Prop := fnExactBookNewUptoRow.holds Try.pinned (OpenSpec.upto fnExactBookNewSpec)

/-- 'laws.FnExactBookOk', WHERE WHAT IT READS IS OF BULK AT MOST 1048576: true; the input reads as it did. -/
def fnExactBookOkUptoRow : OpenClaim := { program := "ytigbjpllckgilaa", sum := "9385c01176b08f0414ac3c8096ebcdc9246c457efca441152fd3280dd4cbbb97", func := "loop.example/g00400/laws.FnExactBookOk", spec := "fnExactBookOk", unfollowed := true, recurses := true, apart := false, narrowed := true }
def FnExactBookOkUptoSaid : Prop := fnExactBookOkUptoRow.holds Try.pinned (OpenSpec.upto fnExactBookOkSpec)

/-- 'laws.FnExactPick', WHERE WHAT IT READS IS OF BULK AT MOST 1048576: true; the input reads as it did. -/
def fnExactPickUptoRow : OpenClaim := { program := "ytigbjpllckgilaa", sum := "9385c01176b08f0414ac3c8096ebcdc9246c457efca441152fd3280dd4cbbb97", func := "loop.example/g00400/laws.FnExactPick", spec := "fnExactPick", unfollowed := true, recurses := true, apart := false, narrowed := true }
def FnExactPickUptoSaid : Prop := fnExactPickUptoRow.holds Try.pinned (OpenSpec.upto fnExactPickSpec)

/-- 'laws.FnExactSameBook', WHERE WHAT IT READS IS OF BULK AT MOST 1048576: true; the input reads as it did. -/
def fnExactSameBookUptoRow : OpenClaim := { program := "ytigbjpllckgilaa", sum := "9385c01176b08f0414ac3c8096ebcdc9246c457efca441152fd3280dd4cbbb97", func := "loop.example/g00400/laws.FnExactSameBook", spec := "fnExactSameBook", unfollowed := true, recurses := true, apart := false, narrowed := true }
def FnExactSameBookUptoSaid : Prop := fnExactSameBookUptoRow.holds Try.pinned (OpenSpec.upto fnExactSameBookSpec)

/-- 'laws.FnExactPricesOk', WHERE WHAT IT READS IS OF BULK AT MOST 1048576: true; the input reads as it did. -/
def fnExactPricesOkUptoRow : OpenClaim := { program := "ytigbjpllckgilaa", sum := "9385c01176b08f0414ac3c8096ebcdc9246c457efca441152fd3280dd4cbbb97", func := "loop.example/g00400/laws.FnExactPricesOk", spec := "fnExactPricesOk", unfollowed := true, recurses := true, apart := false, narrowed := true }
def FnExactPricesOkUptoSaid : Prop := fnExactPricesOkUptoRow.holds Try.pinned (OpenSpec.upto fnExactPricesOkSpec)

/-- 'laws.FnExactAgrees', WHERE WHAT IT READS IS OF BULK AT MOST 1048576: true; the input reads as it did. -/
def fnExactAgreesUptoRow : OpenClaim := { program := "ytigbjpllckgilaa", sum := "9385c01176b08f0414ac3c8096ebcdc9246c457efca441152fd3280dd4cbbb97", func := "loop.example/g00400/laws.FnExactAgrees", spec := "fnExactAgrees", unfollowed := true, recurses := true, apart := false, narrowed := true }
def FnExactAgreesUptoSaid : Prop := fnExactAgreesUptoRow.holds Try.pinned (OpenSpec.upto fnExactAgreesSpec)

/-- 'laws.FnExactSteady', WHERE WHAT IT READS IS OF BULK AT MOST 1048576: true; the input reads as it did. -/
def fnExactSteadyUptoRow : OpenClaim := { program := "ytigbjpllckgilaa", sum := "9385c01176b08f0414ac3c8096ebcdc9246c457efca441152fd3280dd4cbbb97", func := "loop.example/g00400/laws.FnExactSteady", spec := "fnExactSteady", unfollowed := true, recurses := true, named := ["math/bits.divideError", "math/bits.overflowError"], apart := false, narrowed := true }
def FnExactSteadyUptoSaid : Prop := fnExactSteadyUptoRow.holds Try.pinned (OpenSpec.upto fnExactSteadySpec)

/-- 'laws.FnExactTurns', WHERE WHAT IT READS IS OF BULK AT MOST 1048576: true; the input reads as it did. -/
def fnExactTurnsUptoRow : OpenClaim := { program := "ytigbjpllckgilaa", sum := "9385c01176b08f0414ac3c8096ebcdc9246c457efca441152fd3280dd4cbbb97", func := "loop.example/g00400/laws.FnExactTurns", spec := "fnExactTurns", unfollowed := true, recurses := true, named := ["math/bits.divideError", "math/bits.overflowError"], apart := false, narrowed := true }
def FnExactTurnsUptoSaid : Prop := fnExactTurnsUptoRow.holds Try.pinned (OpenSpec.upto fnExactTurnsSpec)

/-- 'laws.FnExactPlanGraph', WHERE WHAT IT READS IS OF BULK AT MOST 1048576: true; the input reads as it did. -/
def fnExactPlanGraphUptoRow : OpenClaim := { program := "ytigbjpllckgilaa", sum := "9385c01176b08f0414ac3c8096ebcdc9246c457efca441152fd3280dd4cbbb97", func := "loop.example/g00400/laws.FnExactPlanGraph", spec := "fnExactPlanGraph", unfollowed := true, recurses := true, named := ["math/bits.divideError", "math/bits.overflowError"], apart := false, narrowed := true }
def FnExactPlanGraphUptoSaid : Prop := fnExactPlanGraphUptoRow.holds Try.pinned (OpenSpec.upto fnExactPlanGraphSpec)

/-- 'laws.FnExactMoves', WHERE WHAT IT READS IS OF BULK AT MOST 1048576: true; the input reads as it did. -/
def fnExactMovesUptoRow : OpenClaim := { program := "ytigbjpllckgilaa", sum := "9385c01176b08f0414ac3c8096ebcdc9246c457efca441152fd3280dd4cbbb97", func := "loop.example/g00400/laws.FnExactMoves", spec := "fnExactMoves", unfollowed := true, recurses := true, named := ["math/bits.divideError", "math/bits.overflowError"], apart := false, narrowed := true }
def FnExactMovesUptoSaid : Prop := fnExactMovesUptoRow.holds Try.pinned (OpenSpec.upto fnExactMovesSpec)

end Rows
end Go.Proofs.Ytigbjpllckgilaa
