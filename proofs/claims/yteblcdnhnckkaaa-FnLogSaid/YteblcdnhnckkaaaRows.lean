/-
  No cell of these rows narrows 'for every input' (looked for: loops, veiled, ifaces, maps, wideKeys, modest, calm, conditions, laid).
  DERIVED. THE GIVEN ROWS OF THIS SEAT. 6 by the template 'for every input the law returns true; each argument reads behind the call as it read before'; 0 by the template 'total and deterministic' (their statements: YteblcdnhnckkaaaTotals.lean).
  GIVEN WITH THE SEED: the statements are not yours to turn. If you find one false, say at which input.
  Laid BY PROGRAM, IN A SANDBOX (cutbox-rows.mjs): the forced cells as the released guide's own fill.sh prints them over the translation 3e6c7e66b7c0c168… (all of the seat's roots in one cut). By AI agents, Wed Nov 11 2026. No macro, syntax, notation, axiom, sorry.
-/
import Derived.Test.YteblcdnhnckkaaaChecked
import GoSem.Claim
import GoSem.ClaimJoined
import GoSem.ClaimMapViews
import Derived.JoinedTies
import Derived.KernelRfl
namespace Go.Proofs.Yteblcdnhnckkaaa
/- THE CELL 'sum', in the pinned program and in every row, IS THE sha256 OF THE DUMP (.gsa) THAT YteblcdnhnckkaaaProg.lean LOADS. Nothing in Lean hashes anything: it is a label: what it is worth is what the hold of that sum in a sandbox is worth. -/
noncomputable def Try.pinned : Pinned := { name := "yteblcdnhnckkaaa", sum := "3e6c7e66b7c0c168aa3bc529bb7637b527ffe6ce6326b751b982e8bbe40e6a33", checked := Try.checked }
namespace Rows
def none {H : Type} : Left H := { results := [], args := [] }

/-- 'laws.FnExactLogAdd': WHATEVER THE INPUT: true; the input reads as it did. -/
def fnExactLogAddSpec : ChangeSpec := { name := "fnExactLogAdd", fn := fun _ => fun
  | [d1, d2] => { results := [.lit (.bool true)], args := [d1, d2] }
  | _ => none }
def fnExactLogAddRow : OpenClaim := { program := "yteblcdnhnckkaaa", sum := "3e6c7e66b7c0c168aa3bc529bb7637b527ffe6ce6326b751b982e8bbe40e6a33", func := "loop.example/g00400/laws.FnExactLogAdd", spec := "fnExactLogAdd", apart := false }
def FnExactLogAddSaid : Prop := fnExactLogAddRow.holds Try.pinned (OpenSpec.ofChange fnExactLogAddSpec)

/-- ITS FALSE NEIGHBOUR: 'it returns false'. Refute it at one input. -/
def fnExactLogAddWrong : ChangeSpec := { name := "fnExactLogAdd", fn := fun _ => fun
  | [d1, d2] => { results := [.lit (.bool false)], args := [d1, d2] }
  | _ => none }
def FnExactLogAddWrongFalsely : Prop := fnExactLogAddRow.holds Try.pinned (OpenSpec.ofChange fnExactLogAddWrong)

/-- 'laws.FnExactLogEvents': WHATEVER THE INPUT: true; the input reads as it did. -/
def fnExactLogEventsSpec : ChangeSpec := { name := "fnExactLogEvents", fn := fun _ => fun
  | [d] => { results := [.lit (.bool true)], args := [d] }
  | _ => none }
def fnExactLogEventsRow : OpenClaim := { program := "yteblcdnhnckkaaa", sum := "3e6c7e66b7c0c168aa3bc529bb7637b527ffe6ce6326b751b982e8bbe40e6a33", func := "loop.example/g00400/laws.FnExactLogEvents", spec := "fnExactLogEvents", unfollowed := true, recurses := true, apart := false }
def FnExactLogEventsSaid : Prop := fnExactLogEventsRow.holds Try.pinned (OpenSpec.ofChange fnExactLogEventsSpec)

/-- ITS FALSE NEIGHBOUR: 'it returns false'. Refute it at one input. -/
def fnExactLogEventsWrong : ChangeSpec := { name := "fnExactLogEvents", fn := fun _ => fun
  | [d] => { results := [.lit (.bool false)], args := [d] }
  | _ => none }
def FnExactLogEventsWrongFalsely : Prop := fnExactLogEventsRow.holds Try.pinned (OpenSpec.ofChange fnExactLogEventsWrong)

/-- 'laws.FnExactLogOpen': WHATEVER THE INPUT: true; the input reads as it did. -/
def fnExactLogOpenSpec : ChangeSpec := { name := "fnExactLogOpen", fn := fun _ => fun
  | [d] => { results := [.lit (.bool true)], args := [d] }
  | _ => none }
def fnExactLogOpenRow : OpenClaim := { program := "yteblcdnhnckkaaa", sum := "3e6c7e66b7c0c168aa3bc529bb7637b527ffe6ce6326b751b982e8bbe40e6a33", func := "loop.example/g00400/laws.FnExactLogOpen", spec := "fnExactLogOpen", unfollowed := true, recurses := true, apart := false }
def FnExactLogOpenSaid : Prop := fnExactLogOpenRow.holds Try.pinned (OpenSpec.ofChange fnExactLogOpenSpec)

/-- ITS FALSE NEIGHBOUR: 'it returns false'. Refute it at one input. -/
def fnExactLogOpenWrong : ChangeSpec := { name := "fnExactLogOpen", fn := fun _ => fun
  | [d] => { results := [.lit (.bool false)], args := [d] }
  | _ => none }
def FnExactLogOpenWrongFalsely : Prop := fnExactLogOpenRow.holds Try.pinned (OpenSpec.ofChange fnExactLogOpenWrong)

/-- 'laws.FnOpen': WHATEVER THE INPUT: true; the input reads as it did. -/
def fnOpenSpec : ChangeSpec := { name := "fnOpen", fn := fun _ => fun
  | [d] => { results := [.lit (.bool true)], args := [d] }
  | _ => none }
def fnOpenRow : OpenClaim := { program := "yteblcdnhnckkaaa", sum := "3e6c7e66b7c0c168aa3bc529bb7637b527ffe6ce6326b751b982e8bbe40e6a33", func := "loop.example/g00400/laws.FnOpen", spec := "fnOpen", unfollowed := true, recurses := true, apart := false }
def FnOpenSaid : Prop := fnOpenRow.holds Try.pinned (OpenSpec.ofChange fnOpenSpec)

/-- ITS FALSE NEIGHBOUR: 'it returns false'. Refute it at one input. -/
def fnOpenWrong : ChangeSpec := { name := "fnOpen", fn := fun _ => fun
  | [d] => { results := [.lit (.bool false)], args := [d] }
  | _ => none }
def FnOpenWrongFalsely : Prop := fnOpenRow.holds Try.pinned (OpenSpec.ofChange fnOpenWrong)

/-- 'laws.FnLog': WHATEVER THE INPUT: true; the input reads as it did. -/
def fnLogSpec : ChangeSpec := { name := "fnLog", fn := fun _ => fun
  | [d] => { results := [.lit (.bool true)], args := [d] }
  | _ => none }
def fnLogRow : OpenClaim := { program := "yteblcdnhnckkaaa", sum := "3e6c7e66b7c0c168aa3bc529bb7637b527ffe6ce6326b751b982e8bbe40e6a33", func := "loop.example/g00400/laws.FnLog", spec := "fnLog", unfollowed := true, recurses := true, apart := false }
def FnLogSaid : Prop := fnLogRow.holds Try.pinned (OpenSpec.ofChange fnLogSpec)

/-- ITS FALSE NEIGHBOUR: 'it returns false'. Refute it at one input. -/
def fnLogWrong : ChangeSpec := { name := "fnLog", fn := fun _ => fun
  | [d] => { results := [.lit (.bool false)], args := [d] }
  | _ => none }
def FnLogWrongFalsely : Prop := fnLogRow.holds Try.pinned (OpenSpec.ofChange fnLogWrong)

/-- 'laws.FnMoves': WHATEVER THE INPUT: true; the input reads as it did. -/
def fnMovesSpec : ChangeSpec := { name := "fnMoves", fn := fun _ => fun
  | [d] => { results := [.lit (.bool true)], args := [d] }
  | _ => none }
def fnMovesRow : OpenClaim := { program := "yteblcdnhnckkaaa", sum := "3e6c7e66b7c0c168aa3bc529bb7637b527ffe6ce6326b751b982e8bbe40e6a33", func := "loop.example/g00400/laws.FnMoves", spec := "fnMoves", unfollowed := true, recurses := true, named := ["math/bits.divideError", "math/bits.overflowError"], apart := false }
def FnMovesSaid : Prop := fnMovesRow.holds Try.pinned (OpenSpec.ofChange fnMovesSpec)

/-- ITS FALSE NEIGHBOUR: 'it returns false'. Refute it at one input. -/
def fnMovesWrong : ChangeSpec := { name := "fnMoves", fn := fun _ => fun
  | [d] => { results := [.lit (.bool false)], args := [d] }
  | _ => none }
def FnMovesWrongFalsely : Prop := fnMovesRow.holds Try.pinned (OpenSpec.ofChange fnMovesWrong)

/- THE SECOND FORM. 'bulk': how many values and letters a reading holds, each counted each time it is reached (what is shared counts as often as it is met; a slice's spare places count too). A statement '..UptoSaid' is the law's where the arguments, and the package variables that the reading takes, are together of bulk at most 1048576: NARROWER than '..Said'. Prove '..Said' where nothing that the law and all that it calls make is longer than what came in: it says more and counts as full. Else prove '..UptoSaid'. A law counts once. -/
mutual
def uptoBulk {H : Type} : DataW H → Nat
  | .lit (.string bytes) => bytes.length + 1
  | .lit _ => 1
  | .nil => 1
  | .ptr d => uptoBulk d + 1
  | .slice elems spare => uptoBulkAll elems + uptoBulkAll spare + 1
  | .agg parts => uptoBulkAll parts + 1
  | .iface _ d => uptoBulk d + 1
  | .map entries => uptoBulkEntries entries + 1
  | .held _ => 1
def uptoBulkAll {H : Type} : List (DataW H) → Nat
  | [] => 0
  | d :: r => uptoBulk d + uptoBulkAll r
def uptoBulkEntries {H : Type} : List (Lit × DataW H) → Nat
  | [] => 0
  | x :: r => uptoBulkEntry x + uptoBulkEntries r
def uptoBulkEntry {H : Type} : Lit × DataW H → Nat
  | (.string bytes, d) => bytes.length + uptoBulk d + 1
  | (_, d) => uptoBulk d + 1
 end
def uptoSmall : (H : Type) → List (DataW H) → Bool := fun _ ds => decide (uptoBulkAll ds ≤ 1048576)
def OpenSpec.upto (s : _root_.Go.ChangeSpec) : _root_.Go.OpenSpec := { _root_.Go.OpenSpec.ofChange s with cond := some uptoSmall }

/-- 'laws.FnExactLogAdd', WHERE WHAT IT READS IS OF BULK AT MOST 1048576: true; the input reads as it did. -/
def fnExactLogAddUptoRow : OpenClaim := { program := "yteblcdnhnckkaaa", sum := "3e6c7e66b7c0c168aa3bc529bb7637b527ffe6ce6326b751b982e8bbe40e6a33", func := "loop.example/g00400/laws.FnExactLogAdd", spec := "fnExactLogAdd", apart := false, narrowed := true }
def FnExactLogAddUptoSaid : Prop := fnExactLogAddUptoRow.holds Try.pinned (OpenSpec.upto fnExactLogAddSpec)

/-- 'laws.FnExactLogEvents', WHERE WHAT IT READS IS OF BULK AT MOST 1048576: true; the input reads as it did. -/
def fnExactLogEventsUptoRow : OpenClaim := { program := "yteblcdnhnckkaaa", sum := "3e6c7e66b7c0c168aa3bc529bb7637b527ffe6ce6326b751b982e8bbe40e6a33", func := "loop.example/g00400/laws.FnExactLogEvents", spec := "fnExactLogEvents", unfollowed := true, recurses := true, apart := false, narrowed := true }
def FnExactLogEventsUptoSaid : Prop := fnExactLogEventsUptoRow.holds Try.pinned (OpenSpec.upto fnExactLogEventsSpec)

/-- 'laws.FnExactLogOpen', WHERE WHAT IT READS IS OF BULK AT MOST 1048576: true; the input reads as it did. -/
def fnExactLogOpenUptoRow : OpenClaim := { program := "yteblcdnhnckkaaa", sum := "3e6c7e66b7c0c168aa3bc529bb7637b527ffe6ce6326b751b982e8bbe40e6a33", func := "loop.example/g00400/laws.FnExactLogOpen", spec := "fnExactLogOpen", unfollowed := true, recurses := true, apart := false, narrowed := true }
def FnExactLogOpenUptoSaid : Prop := fnExactLogOpenUptoRow.holds Try.pinned (OpenSpec.upto fnExactLogOpenSpec)

/-- 'laws.FnOpen', WHERE WHAT IT READS IS OF BULK AT MOST 1048576: true; the input reads as it did. -/
def fnOpenUptoRow : OpenClaim := { program := "yteblcdnhnckkaaa", sum := "3e6c7e66b7c0c168aa3bc529bb7637b527ffe6ce6326b751b982e8bbe40e6a33", func := "loop.example/g00400/laws.FnOpen", spec := "fnOpen", unfollowed := true, recurses := true, apart := false, narrowed := true }
def FnOpenUptoSaid : Prop := fnOpenUptoRow.holds Try.pinned (OpenSpec.upto fnOpenSpec)

/-- 'laws.FnLog', WHERE WHAT IT READS IS OF BULK AT MOST 1048576: true; the input reads as it did. -/
def fnLogUptoRow : OpenClaim := { program := "yteblcdnhnckkaaa", sum := "3e6c7e66b7c0c168aa3bc529bb7637b527ffe6ce6326b751b982e8bbe40e6a33", func := "loop.example/g00400/laws.FnLog", spec := "fnLog", unfollowed := true, recurses := true, apart := false, narrowed := true }
def FnLogUptoSaid : Prop := fnLogUptoRow.holds Try.pinned (OpenSpec.upto fnLogSpec)

/-- 'laws.FnMoves', WHERE WHAT IT READS IS OF BULK AT MOST 1048576: true; the input reads as it did. -/
def fnMovesUptoRow : OpenClaim := { program := "yteblcdnhnckkaaa", sum := "3e6c7e66b7c0c168aa3bc529bb7637b527ffe6ce6326b751b982e8bbe40e6a33", func := "loop.example/g00400/laws.FnMoves", spec := "fnMoves", unfollowed := true, recurses := true, named := ["math/bits.divideError", "math/bits.overflowError"], apart := false, narrowed := true }
def FnMovesUptoSaid : Prop := fnMovesUptoRow.holds Try.pinned (OpenSpec.upto fnMovesSpec)

end Rows
end Go.Proofs.Yteblcdnhnckkaaa
