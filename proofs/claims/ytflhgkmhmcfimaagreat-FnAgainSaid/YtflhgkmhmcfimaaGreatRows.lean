/-
  No cell of these rows narrows 'for every input' (looked for: loops, veiled, ifaces, maps, wideKeys, modest, calm, conditions, laid).
  DERIVED. THE GIVEN ROWS OF THIS SEAT. 8 by the template 'for every input the law returns true; each argument reads behind the call as it read before'; 0 by the template 'total and deterministic' (their statements: YtflhgkmhmcfimaaGreatTotals.lean).
  GIVEN WITH THE SEED: the statements are not yours to turn. If you find one false, say at which input.
  Laid BY PROGRAM, IN A SANDBOX (cutbox-rows.mjs): the forced cells as the released guide's own fill.sh prints them over the translation a7edc16c2d97b609… (all of the seat's roots in one cut). By AI agents, Wed Nov 11 2026. No macro, syntax, notation, axiom, sorry.
-/
import Derived.Test.YtflhgkmhmcfimaaGreatChecked
import GoSem.Claim
import GoSem.ClaimJoined
import GoSem.ClaimMapViews
import Derived.JoinedTies
import Derived.KernelRfl
namespace Go.Proofs.YtflhgkmhmcfimaaGreat
/- THE CELL 'sum', in the pinned program and in every row, IS THE sha256 OF THE DUMP (.gsa) THAT YtflhgkmhmcfimaaGreatProg.lean LOADS. Nothing in Lean hashes anything: it is a label: what it is worth is what the hold of that sum in a sandbox is worth. -/
noncomputable def Tryz.pinned : Pinned := { name := "ytflhgkmhmcfimaagreat", sum := "a7edc16c2d97b609828ecbffd5aa176ecf8752eb5ffc5955eaf0a97e65e70ef1", checked := Tryz.checked }
namespace Rows
def none {H : Type} : Left H := { results := [], args := [] }

/-- 'laws.FnExactHubSync': WHATEVER THE INPUT: true; the input reads as it did. -/
def fnExactHubSyncSpec : ChangeSpec := { name := "fnExactHubSync", fn := fun _ => fun
  | [d] => { results := [.lit (.bool true)], args := [d] }
  | _ => none }
def fnExactHubSyncRow : OpenClaim := { program := "ytflhgkmhmcfimaagreat", sum := "a7edc16c2d97b609828ecbffd5aa176ecf8752eb5ffc5955eaf0a97e65e70ef1", func := "loop.example/g00400/laws.FnExactHubSync", spec := "fnExactHubSync", unfollowed := true, recurses := true, named := ["math/bits.divideError", "math/bits.overflowError"], apart := false }
def FnExactHubSyncSaid : Prop := fnExactHubSyncRow.holds Tryz.pinned (OpenSpec.ofChange fnExactHubSyncSpec)

/-- ITS FALSE NEIGHBOUR: 'it returns false'. Refute it at one input. -/
def fnExactHubSyncWrong : ChangeSpec := { name := "fnExactHubSync", fn := fun _ => fun
  | [d] => { results := [.lit (.bool false)], args := [d] }
  | _ => none }
def FnExactHubSyncWrongFalsely : Prop := fnExactHubSyncRow.holds Tryz.pinned (OpenSpec.ofChange fnExactHubSyncWrong)

/-- 'laws.FnExactHubCrash': WHATEVER THE INPUT: true; the input reads as it did. -/
def fnExactHubCrashSpec : ChangeSpec := { name := "fnExactHubCrash", fn := fun _ => fun
  | [d1, d2] => { results := [.lit (.bool true)], args := [d1, d2] }
  | _ => none }
def fnExactHubCrashRow : OpenClaim := { program := "ytflhgkmhmcfimaagreat", sum := "a7edc16c2d97b609828ecbffd5aa176ecf8752eb5ffc5955eaf0a97e65e70ef1", func := "loop.example/g00400/laws.FnExactHubCrash", spec := "fnExactHubCrash", unfollowed := true, recurses := true, named := ["math/bits.divideError", "math/bits.overflowError"], apart := false }
def FnExactHubCrashSaid : Prop := fnExactHubCrashRow.holds Tryz.pinned (OpenSpec.ofChange fnExactHubCrashSpec)

/-- ITS FALSE NEIGHBOUR: 'it returns false'. Refute it at one input. -/
def fnExactHubCrashWrong : ChangeSpec := { name := "fnExactHubCrash", fn := fun _ => fun
  | [d1, d2] => { results := [.lit (.bool false)], args := [d1, d2] }
  | _ => none }
def FnExactHubCrashWrongFalsely : Prop := fnExactHubCrashRow.holds Tryz.pinned (OpenSpec.ofChange fnExactHubCrashWrong)

/-- 'laws.FnExactHubOpen': WHATEVER THE INPUT: true; the input reads as it did. -/
def fnExactHubOpenSpec : ChangeSpec := { name := "fnExactHubOpen", fn := fun _ => fun
  | [d] => { results := [.lit (.bool true)], args := [d] }
  | _ => none }
def fnExactHubOpenRow : OpenClaim := { program := "ytflhgkmhmcfimaagreat", sum := "a7edc16c2d97b609828ecbffd5aa176ecf8752eb5ffc5955eaf0a97e65e70ef1", func := "loop.example/g00400/laws.FnExactHubOpen", spec := "fnExactHubOpen", unfollowed := true, recurses := true, named := ["math/bits.divideError", "math/bits.overflowError"], apart := false }
def FnExactHubOpenSaid : Prop := fnExactHubOpenRow.holds Tryz.pinned (OpenSpec.ofChange fnExactHubOpenSpec)

/-- ITS FALSE NEIGHBOUR: 'it returns false'. Refute it at one input. -/
def fnExactHubOpenWrong : ChangeSpec := { name := "fnExactHubOpen", fn := fun _ => fun
  | [d] => { results := [.lit (.bool false)], args := [d] }
  | _ => none }
def FnExactHubOpenWrongFalsely : Prop := fnExactHubOpenRow.holds Tryz.pinned (OpenSpec.ofChange fnExactHubOpenWrong)

/-- 'laws.FnExactHubOk': WHATEVER THE INPUT: true; the input reads as it did. -/
def fnExactHubOkSpec : ChangeSpec := { name := "fnExactHubOk", fn := fun _ => fun
  | [d] => { results := [.lit (.bool true)], args := [d] }
  | _ => none }
def fnExactHubOkRow : OpenClaim := { program := "ytflhgkmhmcfimaagreat", sum := "a7edc16c2d97b609828ecbffd5aa176ecf8752eb5ffc5955eaf0a97e65e70ef1", func := "loop.example/g00400/laws.FnExactHubOk", spec := "fnExactHubOk", unfollowed := true, recurses := true, named := ["math/bits.divideError", "math/bits.overflowError"], apart := false }
def FnExactHubOkSaid : Prop := fnExactHubOkRow.holds Tryz.pinned (OpenSpec.ofChange fnExactHubOkSpec)

/-- ITS FALSE NEIGHBOUR: 'it returns false'. Refute it at one input. -/
def fnExactHubOkWrong : ChangeSpec := { name := "fnExactHubOk", fn := fun _ => fun
  | [d] => { results := [.lit (.bool false)], args := [d] }
  | _ => none }
def FnExactHubOkWrongFalsely : Prop := fnExactHubOkRow.holds Tryz.pinned (OpenSpec.ofChange fnExactHubOkWrong)

/-- 'laws.FnCrash': WHATEVER THE INPUT: true; the input reads as it did. -/
def fnCrashSpec : ChangeSpec := { name := "fnCrash", fn := fun _ => fun
  | [d] => { results := [.lit (.bool true)], args := [d] }
  | _ => none }
def fnCrashRow : OpenClaim := { program := "ytflhgkmhmcfimaagreat", sum := "a7edc16c2d97b609828ecbffd5aa176ecf8752eb5ffc5955eaf0a97e65e70ef1", func := "loop.example/g00400/laws.FnCrash", spec := "fnCrash", unfollowed := true, recurses := true, named := ["math/bits.divideError", "math/bits.overflowError"], apart := false }
def FnCrashSaid : Prop := fnCrashRow.holds Tryz.pinned (OpenSpec.ofChange fnCrashSpec)

/-- ITS FALSE NEIGHBOUR: 'it returns false'. Refute it at one input. -/
def fnCrashWrong : ChangeSpec := { name := "fnCrash", fn := fun _ => fun
  | [d] => { results := [.lit (.bool false)], args := [d] }
  | _ => none }
def FnCrashWrongFalsely : Prop := fnCrashRow.holds Tryz.pinned (OpenSpec.ofChange fnCrashWrong)

/-- 'laws.FnTaken': WHATEVER THE INPUT: true; the input reads as it did. -/
def fnTakenSpec : ChangeSpec := { name := "fnTaken", fn := fun _ => fun
  | [d] => { results := [.lit (.bool true)], args := [d] }
  | _ => none }
def fnTakenRow : OpenClaim := { program := "ytflhgkmhmcfimaagreat", sum := "a7edc16c2d97b609828ecbffd5aa176ecf8752eb5ffc5955eaf0a97e65e70ef1", func := "loop.example/g00400/laws.FnTaken", spec := "fnTaken", unfollowed := true, recurses := true, named := ["math/bits.divideError", "math/bits.overflowError"], apart := false }
def FnTakenSaid : Prop := fnTakenRow.holds Tryz.pinned (OpenSpec.ofChange fnTakenSpec)

/-- ITS FALSE NEIGHBOUR: 'it returns false'. Refute it at one input. -/
def fnTakenWrong : ChangeSpec := { name := "fnTaken", fn := fun _ => fun
  | [d] => { results := [.lit (.bool false)], args := [d] }
  | _ => none }
def FnTakenWrongFalsely : Prop := fnTakenRow.holds Tryz.pinned (OpenSpec.ofChange fnTakenWrong)

/-- 'laws.FnLate': WHATEVER THE INPUT: true; the input reads as it did. -/
def fnLateSpec : ChangeSpec := { name := "fnLate", fn := fun _ => fun
  | [d] => { results := [.lit (.bool true)], args := [d] }
  | _ => none }
def fnLateRow : OpenClaim := { program := "ytflhgkmhmcfimaagreat", sum := "a7edc16c2d97b609828ecbffd5aa176ecf8752eb5ffc5955eaf0a97e65e70ef1", func := "loop.example/g00400/laws.FnLate", spec := "fnLate", unfollowed := true, recurses := true, named := ["math/bits.divideError", "math/bits.overflowError"], apart := false }
def FnLateSaid : Prop := fnLateRow.holds Tryz.pinned (OpenSpec.ofChange fnLateSpec)

/-- ITS FALSE NEIGHBOUR: 'it returns false'. Refute it at one input. -/
def fnLateWrong : ChangeSpec := { name := "fnLate", fn := fun _ => fun
  | [d] => { results := [.lit (.bool false)], args := [d] }
  | _ => none }
def FnLateWrongFalsely : Prop := fnLateRow.holds Tryz.pinned (OpenSpec.ofChange fnLateWrong)

/-- 'laws.FnAgain': WHATEVER THE INPUT: true; the input reads as it did. -/
def fnAgainSpec : ChangeSpec := { name := "fnAgain", fn := fun _ => fun
  | [d] => { results := [.lit (.bool true)], args := [d] }
  | _ => none }
def fnAgainRow : OpenClaim := { program := "ytflhgkmhmcfimaagreat", sum := "a7edc16c2d97b609828ecbffd5aa176ecf8752eb5ffc5955eaf0a97e65e70ef1", func := "loop.example/g00400/laws.FnAgain", spec := "fnAgain", unfollowed := true, recurses := true, named := ["math/bits.divideError", "math/bits.overflowError"], apart := false }
def FnAgainSaid : Prop := fnAgainRow.holds Tryz.pinned (OpenSpec.ofChange fnAgainSpec)

/-- ITS FALSE NEIGHBOUR: 'it returns false'. Refute it at one input. -/
def fnAgainWrong : ChangeSpec := { name := "fnAgain", fn := fun _ => fun
  | [d] => { results := [.lit (.bool false)], args := [d] }
  | _ => none }
def FnAgainWrongFalsely : Prop := fnAgainRow.holds Tryz.pinned (OpenSpec.ofChange fnAgainWrong)

/- THE SECOND FORM. 'bulk': how many values and letters a reading holds, each counted each time it is reached (what is shared counts as often as it is met; a slice's spare places count too). A statement '..UptoSaid' is the law's where the arguments, and the package variables that the reading takes, are together of bulk at most 1048576: NARROWER than '..Said'. Prove '..Said' where nothing that the law and all that it calls make is longer than what came in: it says more and counts as full. Else prove '..UptoSaid'. A law counts once. -/
mutual
def uptoBulk {H : Type} : DataW H → Nat
  | .lit (.string bytes) => bytes.length + 1
  | .lit _ => 1
  | .nil => 1
  | .ptr d => uptoBulk d + 1
  | .slice elems spare => uptoBulkAll elems + uptoBulkAll spare + 1
  | .agg parts => uptoBulkAll parts + 1
  | .iface _ d => uptoBulk d + 1
  | .map entries => uptoBulkEntries entries + 1
  | .held _ => 1
def uptoBulkAll {H : Type} : List (DataW H) → Nat
  | [] => 0
  | d :: r => uptoBulk d + uptoBulkAll r
def uptoBulkEntries {H : Type} : List (Lit × DataW H) → Nat
  | [] => 0
  | x :: r => uptoBulkEntry x + uptoBulkEntries r
def uptoBulkEntry {H : Type} : Lit × DataW H → Nat
  | (.string bytes, d) => bytes.length + uptoBulk d + 1
  | (_, d) => uptoBulk d + 1
 end
def uptoSmall : (H : Type) → List (DataW H) → Bool := fun _ ds => decide (uptoBulkAll ds ≤ 1048576)
def OpenSpec.upto (s : _root_.Go.ChangeSpec) : _root_.Go.OpenSpec := { _root_.Go.OpenSpec.ofChange s with cond := some uptoSmall }

/-- 'laws.FnExactHubSync', WHERE WHAT IT READS IS OF BULK AT MOST 1048576: true; the input reads as it did. -/
def fnExactHubSyncUptoRow : OpenClaim := { program := "ytflhgkmhmcfimaagreat", sum := "a7edc16c2d97b609828ecbffd5aa176ecf8752eb5ffc5955eaf0a97e65e70ef1", func := "loop.example/g00400/laws.FnExactHubSync", spec := "fnExactHubSync", unfollowed := true, recurses := true, named := ["math/bits.divideError", "math/bits.overflowError"], apart := false, narrowed := true }
def FnExactHubSyncUptoSaid : Prop := fnExactHubSyncUptoRow.holds Tryz.pinned (OpenSpec.upto fnExactHubSyncSpec)

/-- 'laws.FnExactHubCrash', WHERE WHAT IT READS IS OF BULK AT MOST 1048576: true; the input reads as it did. -/
def fnExactHubCrashUptoRow : OpenClaim := { program := "ytflhgkmhmcfimaagreat", sum := "a7edc16c2d97b609828ecbffd5aa176ecf8752eb5ffc5955eaf0a97e65e70ef1", func := "loop.example/g00400/laws.FnExactHubCrash", spec := "fnExactHubCrash", unfollowed := true, recurses := true, named := ["math/bits.divideError", "math/bits.overflowError"], apart := false, narrowed := true }
def FnExactHubCrashUptoSaid : Prop := fnExactHubCrashUptoRow.holds Tryz.pinned (OpenSpec.upto fnExactHubCrashSpec)

/-- 'laws.FnExactHubOpen', WHERE WHAT IT READS IS OF BULK AT MOST 1048576: true; the input reads as it did. -/
def fnExactHubOpenUptoRow : OpenClaim := { program := "ytflhgkmhmcfimaagreat", sum := "a7edc16c2d97b609828ecbffd5aa176ecf8752eb5ffc5955eaf0a97e65e70ef1", func := "loop.example/g00400/laws.FnExactHubOpen", spec := "fnExactHubOpen", unfollowed := true, recurses := true, named := ["math/bits.divideError", "math/bits.overflowError"], apart := false, narrowed := true }
def FnExactHubOpenUptoSaid : Prop := fnExactHubOpenUptoRow.holds Tryz.pinned (OpenSpec.upto fnExactHubOpenSpec)

/-- 'laws.FnExactHubOk', WHERE WHAT IT READS IS OF BULK AT MOST 1048576: true; the input reads as it did. -/
def fnExactHubOkUptoRow : OpenClaim := { program := "ytflhgkmhmcfimaagreat", sum := "a7edc16c2d97b609828ecbffd5aa176ecf8752eb5ffc5955eaf0a97e65e70ef1", func := "loop.example/g00400/laws.FnExactHubOk", spec := "fnExactHubOk", unfollowed := true, recurses := true, named := ["math/bits.divideError", "math/bits.overflowError"], apart := false, narrowed := true }
def FnExactHubOkUptoSaid : Prop := fnExactHubOkUptoRow.holds Tryz.pinned (OpenSpec.upto fnExactHubOkSpec)

/-- 'laws.FnCrash', WHERE WHAT IT READS IS OF BULK AT MOST 1048576: true; the input reads as it did. -/
def fnCrashUptoRow : OpenClaim := { program := "ytflhgkmhmcfimaagreat", sum := "a7edc16c2d97b609828ecbffd5aa176ecf8752eb5ffc5955eaf0a97e65e70ef1", func := "loop.example/g00400/laws.FnCrash", spec := "fnCrash", unfollowed := true, recurses := true, named := ["math/bits.divideError", "math/bits.overflowError"], apart := false, narrowed := true }
def FnCrashUptoSaid : Prop := fnCrashUptoRow.holds Tryz.pinned (OpenSpec.upto fnCrashSpec)

/-- 'laws.FnTaken', WHERE WHAT IT READS IS OF BULK AT MOST 1048576: true; the input reads as it did. -/
def fnTakenUptoRow : OpenClaim := { program := "ytflhgkmhmcfimaagreat", sum := "a7edc16c2d97b609828ecbffd5aa176ecf8752eb5ffc5955eaf0a97e65e70ef1", func := "loop.example/g00400/laws.FnTaken", spec := "fnTaken", unfollowed := true, recurses := true, named := ["math/bits.divideError", "math/bits.overflowError"], apart := false, narrowed := true }
def FnTakenUptoSaid : Prop := fnTakenUptoRow.holds Tryz.pinned (OpenSpec.upto fnTakenSpec)

/-- 'laws.FnLate', WHERE WHAT IT READS IS OF BULK AT MOST 1048576: true; the input reads as it did. -/
def fnLateUptoRow : OpenClaim := { program := "ytflhgkmhmcfimaagreat", sum := "a7edc16c2d97b609828ecbffd5aa176ecf8752eb5ffc5955eaf0a97e65e70ef1", func := "loop.example/g00400/laws.FnLate", spec := "fnLate", unfollowed := true, recurses := true, named := ["math/bits.divideError", "math/bits.overflowError"], apart := false, narrowed := true }
def FnLateUptoSaid : Prop := fnLateUptoRow.holds Tryz.pinned (OpenSpec.upto fnLateSpec)

/-- 'laws.FnAgain', WHERE WHAT IT READS IS OF BULK AT MOST 1048576: true; the input reads as it did. -/
def fnAgainUptoRow : OpenClaim := { program := "ytflhgkmhmcfimaagreat", sum := "a7edc16c2d97b609828ecbffd5aa176ecf8752eb5ffc5955eaf0a97e65e70ef1", func := "loop.example/g00400/laws.FnAgain", spec := "fnAgain", unfollowed := true, recurses := true, named := ["math/bits.divideError", "math/bits.overflowError"], apart := false, narrowed := true }
def FnAgainUptoSaid : Prop := fnAgainUptoRow.holds Tryz.pinned (OpenSpec.upto fnAgainSpec)

end Rows
end Go.Proofs.YtflhgkmhmcfimaaGreat
