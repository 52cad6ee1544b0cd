/-
  No cell of these rows narrows 'for every input' (looked for: loops, veiled, ifaces, maps, wideKeys, modest, calm, conditions, laid).
  DERIVED. THE GIVEN ROWS OF THIS SEAT. 6 by the template 'for every input the law returns true; each argument reads behind the call as it read before'; 0 by the template 'total and deterministic' (their statements: YtofdmjaceghmbaaTotals.lean).
  GIVEN WITH THE SEED: the statements are not yours to turn. If you find one false, say at which input.
  Laid BY PROGRAM, IN A SANDBOX (cutbox-rows.mjs): the forced cells as the released guide's own fill.sh prints them over the translation 7eb33a435d4f3f7e… (all of the seat's roots in one cut). By AI agents, Wed Nov 11 2026. No macro, syntax, notation, axiom, sorry.
-/
import Derived.Test.YtofdmjaceghmbaaChecked
import GoSem.Claim
import GoSem.ClaimJoined
import GoSem.ClaimMapViews
import Derived.JoinedTies
import Derived.KernelRfl
namespace Go.Proofs.Ytofdmjaceghmbaa
/- THE CELL 'sum', in the pinned program and in every row, IS THE sha256 OF THE DUMP (.gsa) THAT YtofdmjaceghmbaaProg.lean LOADS. Nothing in Lean hashes anything: it is a label: what it is worth is what the hold of that sum in a sandbox is worth. -/
noncomputable def Try.pinned : Pinned := { name := "ytofdmjaceghmbaa", sum := "7eb33a435d4f3f7eaed278293540fc794adfb974f0d9e6f0d38f3d4495c268e8", checked := Try.checked }
namespace Rows
def none {H : Type} : Left H := { results := [], args := [] }

/-- 'laws.FnExactScoreOk': WHATEVER THE INPUT: true; the input reads as it did. -/
def fnExactScoreOkSpec : ChangeSpec := { name := "fnExactScoreOk", fn := fun _ => fun
  | [d] => { results := [.lit (.bool true)], args := [d] }
  | _ => none }
def fnExactScoreOkRow : OpenClaim := { program := "ytofdmjaceghmbaa", sum := "7eb33a435d4f3f7eaed278293540fc794adfb974f0d9e6f0d38f3d4495c268e8", func := "loop.example/g00400/laws.FnExactScoreOk", spec := "fnExactScoreOk", apart := false }
def FnExactScoreOkSaid : Prop := fnExactScoreOkRow.holds Try.pinned (OpenSpec.ofChange fnExactScoreOkSpec)

/-- ITS FALSE NEIGHBOUR: 'it returns false'. Refute it at one input. -/
def fnExactScoreOkWrong : ChangeSpec := { name := "fnExactScoreOk", fn := fun _ => fun
  | [d] => { results := [.lit (.bool false)], args := [d] }
  | _ => none }
def FnExactScoreOkWrongFalsely : Prop := fnExactScoreOkRow.holds Try.pinned (OpenSpec.ofChange fnExactScoreOkWrong)

/-- 'laws.FnExactStanding': WHATEVER THE INPUT: true; the input reads as it did. -/
def fnExactStandingSpec : ChangeSpec := { name := "fnExactStanding", fn := fun _ => fun
  | [d1, d2] => { results := [.lit (.bool true)], args := [d1, d2] }
  | _ => none }
def fnExactStandingRow : OpenClaim := { program := "ytofdmjaceghmbaa", sum := "7eb33a435d4f3f7eaed278293540fc794adfb974f0d9e6f0d38f3d4495c268e8", func := "loop.example/g00400/laws.FnExactStanding", spec := "fnExactStanding", apart := false }
def FnExactStandingSaid : Prop := fnExactStandingRow.holds Try.pinned (OpenSpec.ofChange fnExactStandingSpec)

/-- ITS FALSE NEIGHBOUR: 'it returns false'. Refute it at one input. -/
def fnExactStandingWrong : ChangeSpec := { name := "fnExactStanding", fn := fun _ => fun
  | [d1, d2] => { results := [.lit (.bool false)], args := [d1, d2] }
  | _ => none }
def FnExactStandingWrongFalsely : Prop := fnExactStandingRow.holds Try.pinned (OpenSpec.ofChange fnExactStandingWrong)

/-- 'laws.FnExactRuleOk': WHATEVER THE INPUT: true; the input reads as it did. -/
def fnExactRuleOkSpec : ChangeSpec := { name := "fnExactRuleOk", fn := fun _ => fun
  | [d] => { results := [.lit (.bool true)], args := [d] }
  | _ => none }
def fnExactRuleOkRow : OpenClaim := { program := "ytofdmjaceghmbaa", sum := "7eb33a435d4f3f7eaed278293540fc794adfb974f0d9e6f0d38f3d4495c268e8", func := "loop.example/g00400/laws.FnExactRuleOk", spec := "fnExactRuleOk", apart := false }
def FnExactRuleOkSaid : Prop := fnExactRuleOkRow.holds Try.pinned (OpenSpec.ofChange fnExactRuleOkSpec)

/-- ITS FALSE NEIGHBOUR: 'it returns false'. Refute it at one input. -/
def fnExactRuleOkWrong : ChangeSpec := { name := "fnExactRuleOk", fn := fun _ => fun
  | [d] => { results := [.lit (.bool false)], args := [d] }
  | _ => none }
def FnExactRuleOkWrongFalsely : Prop := fnExactRuleOkRow.holds Try.pinned (OpenSpec.ofChange fnExactRuleOkWrong)

/-- 'laws.FnExactScoreFade': WHATEVER THE INPUT: true; the input reads as it did. -/
def fnExactScoreFadeSpec : ChangeSpec := { name := "fnExactScoreFade", fn := fun _ => fun
  | [d] => { results := [.lit (.bool true)], args := [d] }
  | _ => none }
def fnExactScoreFadeRow : OpenClaim := { program := "ytofdmjaceghmbaa", sum := "7eb33a435d4f3f7eaed278293540fc794adfb974f0d9e6f0d38f3d4495c268e8", func := "loop.example/g00400/laws.FnExactScoreFade", spec := "fnExactScoreFade", apart := false }
def FnExactScoreFadeSaid : Prop := fnExactScoreFadeRow.holds Try.pinned (OpenSpec.ofChange fnExactScoreFadeSpec)

/-- ITS FALSE NEIGHBOUR: 'it returns false'. Refute it at one input. -/
def fnExactScoreFadeWrong : ChangeSpec := { name := "fnExactScoreFade", fn := fun _ => fun
  | [d] => { results := [.lit (.bool false)], args := [d] }
  | _ => none }
def FnExactScoreFadeWrongFalsely : Prop := fnExactScoreFadeRow.holds Try.pinned (OpenSpec.ofChange fnExactScoreFadeWrong)

/-- 'laws.FnExactScoreDown': WHATEVER THE INPUT: true; the input reads as it did. -/
def fnExactScoreDownSpec : ChangeSpec := { name := "fnExactScoreDown", fn := fun _ => fun
  | [d] => { results := [.lit (.bool true)], args := [d] }
  | _ => none }
def fnExactScoreDownRow : OpenClaim := { program := "ytofdmjaceghmbaa", sum := "7eb33a435d4f3f7eaed278293540fc794adfb974f0d9e6f0d38f3d4495c268e8", func := "loop.example/g00400/laws.FnExactScoreDown", spec := "fnExactScoreDown", apart := false }
def FnExactScoreDownSaid : Prop := fnExactScoreDownRow.holds Try.pinned (OpenSpec.ofChange fnExactScoreDownSpec)

/-- ITS FALSE NEIGHBOUR: 'it returns false'. Refute it at one input. -/
def fnExactScoreDownWrong : ChangeSpec := { name := "fnExactScoreDown", fn := fun _ => fun
  | [d] => { results := [.lit (.bool false)], args := [d] }
  | _ => none }
def FnExactScoreDownWrongFalsely : Prop := fnExactScoreDownRow.holds Try.pinned (OpenSpec.ofChange fnExactScoreDownWrong)

/-- 'laws.FnExactScoreUp': WHATEVER THE INPUT: true; the input reads as it did. -/
def fnExactScoreUpSpec : ChangeSpec := { name := "fnExactScoreUp", fn := fun _ => fun
  | [d] => { results := [.lit (.bool true)], args := [d] }
  | _ => none }
def fnExactScoreUpRow : OpenClaim := { program := "ytofdmjaceghmbaa", sum := "7eb33a435d4f3f7eaed278293540fc794adfb974f0d9e6f0d38f3d4495c268e8", func := "loop.example/g00400/laws.FnExactScoreUp", spec := "fnExactScoreUp", apart := false }
def FnExactScoreUpSaid : Prop := fnExactScoreUpRow.holds Try.pinned (OpenSpec.ofChange fnExactScoreUpSpec)

/-- ITS FALSE NEIGHBOUR: 'it returns false'. Refute it at one input. -/
def fnExactScoreUpWrong : ChangeSpec := { name := "fnExactScoreUp", fn := fun _ => fun
  | [d] => { results := [.lit (.bool false)], args := [d] }
  | _ => none }
def FnExactScoreUpWrongFalsely : Prop := fnExactScoreUpRow.holds Try.pinned (OpenSpec.ofChange fnExactScoreUpWrong)

/- THE SECOND FORM. 'bulk': how many values and letters a reading holds, each counted each time it is reached (what is shared counts as often as it is met; a slice's spare places count too). A statement '..UptoSaid' is the law's where the arguments, and the package variables that the reading takes, are together of bulk at most 1048576: NARROWER than '..Said'. Prove '..Said' where nothing that the law and all that it calls make is longer than what came in: it says more and counts as full. Else prove '..UptoSaid'. A law counts once. -/
mutual
def uptoBulk {H : Type} : DataW H → Nat
  | .lit (.string bytes) => bytes.length + 1
  | .lit _ => 1
  | .nil => 1
  | .ptr d => uptoBulk d + 1
  | .slice elems spare => uptoBulkAll elems + uptoBulkAll spare + 1
  | .agg parts => uptoBulkAll parts + 1
  | .iface _ d => uptoBulk d + 1
  | .map entries => uptoBulkEntries entries + 1
  | .held _ => 1
def uptoBulkAll {H : Type} : List (DataW H) → Nat
  | [] => 0
  | d :: r => uptoBulk d + uptoBulkAll r
def uptoBulkEntries {H : Type} : List (Lit × DataW H) → Nat
  | [] => 0
  | x :: r => uptoBulkEntry x + uptoBulkEntries r
def uptoBulkEntry {H : Type} : Lit × DataW H → Nat
  | (.string bytes, d) => bytes.length + uptoBulk d + 1
  | (_, d) => uptoBulk d + 1
 end
def uptoSmall : (H : Type) → List (DataW H) → Bool := fun _ ds => decide (uptoBulkAll ds ≤ 1048576)
def OpenSpec.upto (s : _root_.Go.ChangeSpec) : _root_.Go.OpenSpec := { _root_.Go.OpenSpec.ofChange s with cond := some uptoSmall }

/-- 'laws.FnExactScoreOk', WHERE WHAT IT READS IS OF BULK AT MOST 1048576: true; the input reads as it did. -/
def fnExactScoreOkUptoRow : OpenClaim := { program := "ytofdmjaceghmbaa", sum := "7eb33a435d4f3f7eaed278293540fc794adfb974f0d9e6f0d38f3d4495c268e8", func := "loop.example/g00400/laws.FnExactScoreOk", spec := "fnExactScoreOk", apart := false, narrowed := true }
def FnExactScoreOkUptoSaid : Prop := fnExactScoreOkUptoRow.holds Try.pinned (OpenSpec.upto fnExactScoreOkSpec)

/-- 'laws.FnExactStanding', WHERE WHAT IT READS IS OF BULK AT MOST 1048576: true; the input reads as it did. -/
def fnExactStandingUptoRow : OpenClaim := { program := "ytofdmjaceghmbaa", sum := "7eb33a435d4f3f7eaed278293540fc794adfb974f0d9e6f0d38f3d4495c268e8", func := "loop.example/g00400/laws.FnExactStanding", spec := "fnExactStanding", apart := false, narrowed := true }
def FnExactStandingUptoSaid : Prop := fnExactStandingUptoRow.holds Try.pinned (OpenSpec.upto fnExactStandingSpec)

/-- 'laws.FnExactRuleOk', WHERE WHAT IT READS IS OF BULK AT MOST 1048576: true; the input reads as it did. -/
def fnExactRuleOkUptoRow : OpenClaim := { program := "ytofdmjaceghmbaa", sum := "7eb33a435d4f3f7eaed278293540fc794adfb974f0d9e6f0d38f3d4495c268e8", func := "loop.example/g00400/laws.FnExactRuleOk", spec := "fnExactRuleOk", apart := false, narrowed := true }
def FnExactRuleOkUptoSaid : Prop := fnExactRuleOkUptoRow.holds Try.pinned (OpenSpec.upto fnExactRuleOkSpec)

/-- 'laws.FnExactScoreFade', WHERE WHAT IT READS IS OF BULK AT MOST 1048576: true; the input reads as it did. -/
def fnExactScoreFadeUptoRow : OpenClaim := { program := "ytofdmjaceghmbaa", sum := "7eb33a435d4f3f7eaed278293540fc794adfb974f0d9e6f0d38f3d4495c268e8", func := "loop.example/g00400/laws.FnExactScoreFade", spec := "fnExactScoreFade", apart := false, narrowed := true }
def FnExactScoreFadeUptoSaid : Prop := fnExactScoreFadeUptoRow.holds Try.pinned (OpenSpec.upto fnExactScoreFadeSpec)

/-- 'laws.FnExactScoreDown', WHERE WHAT IT READS IS OF BULK AT MOST 1048576: true; the input reads as it did. -/
def fnExactScoreDownUptoRow : OpenClaim := { program := "ytofdmjaceghmbaa", sum := "7eb33a435d4f3f7eaed278293540fc794adfb974f0d9e6f0d38f3d4495c268e8", func := "loop.example/g00400/laws.FnExactScoreDown", spec := "fnExactScoreDown", apart := false, narrowed := true }
def FnExactScoreDownUptoSaid : Prop := fnExactScoreDownUptoRow.holds Try.pinned (OpenSpec.upto fnExactScoreDownSpec)

/-- 'laws.FnExactScoreUp', WHERE WHAT IT READS IS OF BULK AT MOST 1048576: true; the input reads as it did. -/
def fnExactScoreUpUptoRow : OpenClaim := { program := "ytofdmjaceghmbaa", sum := "7eb33a435d4f3f7eaed278293540fc794adfb974f0d9e6f0d38f3d4495c268e8", func := "loop.example/g00400/laws.FnExactScoreUp", spec := "fnExactScoreUp", apart := false, narrowed := true }
def FnExactScoreUpUptoSaid : Prop := fnExactScoreUpUptoRow.holds Try.pinned (OpenSpec.upto fnExactScoreUpSpec)

end Rows
end Go.Proofs.Ytofdmjaceghmbaa
