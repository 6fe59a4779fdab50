/-
  No cell of these rows narrows 'for every input' (looked for: loops, veiled, ifaces, maps, wideKeys, modest, calm, conditions, laid).
  DERIVED. THE GIVEN ROWS OF THIS SEAT. 13 by the template 'for every input the law returns true; each argument reads behind the call as it read before'; 0 by the template 'total and deterministic' (their statements: YtccgbilgfnoheaaTotals.lean).
  GIVEN WITH THE SEED: the statements are not yours to turn. If you find one false, say at which input.
  Laid BY PROGRAM, IN A SANDBOX (cutbox-rows.mjs): the forced cells as the released guide's own fill.sh prints them over the translation 0ac6deee28b946cc… (all of the seat's roots in one cut). By AI agents, Wed Nov 11 2026. No macro, syntax, notation, axiom, sorry.
-/
import Derived.Test.YtccgbilgfnoheaaChecked
import GoSem.Claim
import GoSem.ClaimJoined
import GoSem.ClaimMapViews
import Derived.JoinedTies
import Derived.KernelRfl
namespace Go.Proofs.Ytccgbilgfnoheaa
/- THE CELL 'sum', in the pinned program and in every row, IS THE sha256 OF THE DUMP (.gsa) THAT YtccgbilgfnoheaaProg.lean LOADS. Nothing in Lean hashes anything: it is a label: what it is worth is what the hold of that sum in a sandbox is worth. -/
noncomputable def Try.pinned : Pinned := { name := "ytccgbilgfnoheaa", sum := "0ac6deee28b946ccff7baa1a0234b80331c4970f6d81d9045d756ede7fe91d79", checked := Try.checked }
namespace Rows
def none {H : Type} : Left H := { results := [], args := [] }

/-- 'laws.FnPaidOnce': WHATEVER THE INPUT: true; the input reads as it did. -/
def fnPaidOnceSpec : ChangeSpec := { name := "fnPaidOnce", fn := fun _ => fun
  | [d] => { results := [.lit (.bool true)], args := [d] }
  | _ => none }
def fnPaidOnceRow : OpenClaim := { program := "ytccgbilgfnoheaa", sum := "0ac6deee28b946ccff7baa1a0234b80331c4970f6d81d9045d756ede7fe91d79", func := "loop.example/g00980/laws.FnPaidOnce", spec := "fnPaidOnce", unfollowed := true, recurses := true, apart := false }
def FnPaidOnceSaid : Prop := fnPaidOnceRow.holds Try.pinned (OpenSpec.ofChange fnPaidOnceSpec)

/-- ITS FALSE NEIGHBOUR: 'it returns false'. Refute it at one input. -/
def fnPaidOnceWrong : ChangeSpec := { name := "fnPaidOnce", fn := fun _ => fun
  | [d] => { results := [.lit (.bool false)], args := [d] }
  | _ => none }
def FnPaidOnceWrongFalsely : Prop := fnPaidOnceRow.holds Try.pinned (OpenSpec.ofChange fnPaidOnceWrong)

/-- 'laws.FnExactBankOk': WHATEVER THE INPUT: true; the input reads as it did. -/
def fnExactBankOkSpec : ChangeSpec := { name := "fnExactBankOk", fn := fun _ => fun
  | [d] => { results := [.lit (.bool true)], args := [d] }
  | _ => none }
def fnExactBankOkRow : OpenClaim := { program := "ytccgbilgfnoheaa", sum := "0ac6deee28b946ccff7baa1a0234b80331c4970f6d81d9045d756ede7fe91d79", func := "loop.example/g00980/laws.FnExactBankOk", spec := "fnExactBankOk", unfollowed := true, recurses := true, apart := false }
def FnExactBankOkSaid : Prop := fnExactBankOkRow.holds Try.pinned (OpenSpec.ofChange fnExactBankOkSpec)

/-- ITS FALSE NEIGHBOUR: 'it returns false'. Refute it at one input. -/
def fnExactBankOkWrong : ChangeSpec := { name := "fnExactBankOk", fn := fun _ => fun
  | [d] => { results := [.lit (.bool false)], args := [d] }
  | _ => none }
def FnExactBankOkWrongFalsely : Prop := fnExactBankOkRow.holds Try.pinned (OpenSpec.ofChange fnExactBankOkWrong)

/-- 'laws.FnExactRunOk': WHATEVER THE INPUT: true; the input reads as it did. -/
def fnExactRunOkSpec : ChangeSpec := { name := "fnExactRunOk", fn := fun _ => fun
  | [d] => { results := [.lit (.bool true)], args := [d] }
  | _ => none }
def fnExactRunOkRow : OpenClaim := { program := "ytccgbilgfnoheaa", sum := "0ac6deee28b946ccff7baa1a0234b80331c4970f6d81d9045d756ede7fe91d79", func := "loop.example/g00980/laws.FnExactRunOk", spec := "fnExactRunOk", unfollowed := true, recurses := true, apart := false }
def FnExactRunOkSaid : Prop := fnExactRunOkRow.holds Try.pinned (OpenSpec.ofChange fnExactRunOkSpec)

/-- ITS FALSE NEIGHBOUR: 'it returns false'. Refute it at one input. -/
def fnExactRunOkWrong : ChangeSpec := { name := "fnExactRunOk", fn := fun _ => fun
  | [d] => { results := [.lit (.bool false)], args := [d] }
  | _ => none }
def FnExactRunOkWrongFalsely : Prop := fnExactRunOkRow.holds Try.pinned (OpenSpec.ofChange fnExactRunOkWrong)

/-- 'laws.FnExactRunNew': WHATEVER THE INPUT: true; the input reads as it did. -/
def fnExactRunNewSpec : ChangeSpec := { name := "fnExactRunNew", fn := fun _ => fun
  | [d1, d2, d3] => { results := [.lit (.bool true)], args := [d1, d2, d3] }
  | _ => none }
def fnExactRunNewRow : OpenClaim := { program := "ytccgbilgfnoheaa", sum := "0ac6deee28b946ccff7baa1a0234b80331c4970f6d81d9045d756ede7fe91d79", func := "loop.example/g00980/laws.FnExactRunNew", spec := "fnExactRunNew", unfollowed := true, recurses := true, apart := false }
def FnExactRunNewSaid : Prop := fnExactRunNewRow.holds Try.pinned (OpenSpec.ofChange fnExactRunNewSpec)

/-- ITS FALSE NEIGHBOUR: 'it returns false'. Refute it at one input. -/
def fnExactRunNewWrong : ChangeSpec := { name := "fnExactRunNew", fn := fun _ => fun
  | [d1, d2, d3] => { results := [.lit (.bool false)], args := [d1, d2, d3] }
  | _ => none }
def FnExactRunNewWrongFalsely : Prop := fnExactRunNewRow.holds Try.pinned (OpenSpec.ofChange fnExactRunNewWrong)

/-- 'laws.FnNewRuns': WHATEVER THE INPUT: true; the input reads as it did. -/
def fnNewRunsSpec : ChangeSpec := { name := "fnNewRuns", fn := fun _ => fun
  | [d] => { results := [.lit (.bool true)], args := [d] }
  | _ => none }
def fnNewRunsRow : OpenClaim := { program := "ytccgbilgfnoheaa", sum := "0ac6deee28b946ccff7baa1a0234b80331c4970f6d81d9045d756ede7fe91d79", func := "loop.example/g00980/laws.FnNewRuns", spec := "fnNewRuns", unfollowed := true, recurses := true, apart := false }
def FnNewRunsSaid : Prop := fnNewRunsRow.holds Try.pinned (OpenSpec.ofChange fnNewRunsSpec)

/-- ITS FALSE NEIGHBOUR: 'it returns false'. Refute it at one input. -/
def fnNewRunsWrong : ChangeSpec := { name := "fnNewRuns", fn := fun _ => fun
  | [d] => { results := [.lit (.bool false)], args := [d] }
  | _ => none }
def FnNewRunsWrongFalsely : Prop := fnNewRunsRow.holds Try.pinned (OpenSpec.ofChange fnNewRunsWrong)

/-- 'laws.FnExactAccept': WHATEVER THE INPUT: true; the input reads as it did. -/
def fnExactAcceptSpec : ChangeSpec := { name := "fnExactAccept", fn := fun _ => fun
  | [d1, d2, d3] => { results := [.lit (.bool true)], args := [d1, d2, d3] }
  | _ => none }
def fnExactAcceptRow : OpenClaim := { program := "ytccgbilgfnoheaa", sum := "0ac6deee28b946ccff7baa1a0234b80331c4970f6d81d9045d756ede7fe91d79", func := "loop.example/g00980/laws.FnExactAccept", spec := "fnExactAccept", unfollowed := true, recurses := true, apart := false }
def FnExactAcceptSaid : Prop := fnExactAcceptRow.holds Try.pinned (OpenSpec.ofChange fnExactAcceptSpec)

/-- ITS FALSE NEIGHBOUR: 'it returns false'. Refute it at one input. -/
def fnExactAcceptWrong : ChangeSpec := { name := "fnExactAccept", fn := fun _ => fun
  | [d1, d2, d3] => { results := [.lit (.bool false)], args := [d1, d2, d3] }
  | _ => none }
def FnExactAcceptWrongFalsely : Prop := fnExactAcceptRow.holds Try.pinned (OpenSpec.ofChange fnExactAcceptWrong)

/-- 'laws.FnExactAfterReturns': WHATEVER THE INPUT: true; the input reads as it did. -/
def fnExactAfterReturnsSpec : ChangeSpec := { name := "fnExactAfterReturns", fn := fun _ => fun
  | [d1, d2] => { results := [.lit (.bool true)], args := [d1, d2] }
  | _ => none }
def fnExactAfterReturnsRow : OpenClaim := { program := "ytccgbilgfnoheaa", sum := "0ac6deee28b946ccff7baa1a0234b80331c4970f6d81d9045d756ede7fe91d79", func := "loop.example/g00980/laws.FnExactAfterReturns", spec := "fnExactAfterReturns", unfollowed := true, recurses := true, apart := false }
def FnExactAfterReturnsSaid : Prop := fnExactAfterReturnsRow.holds Try.pinned (OpenSpec.ofChange fnExactAfterReturnsSpec)

/-- ITS FALSE NEIGHBOUR: 'it returns false'. Refute it at one input. -/
def fnExactAfterReturnsWrong : ChangeSpec := { name := "fnExactAfterReturns", fn := fun _ => fun
  | [d1, d2] => { results := [.lit (.bool false)], args := [d1, d2] }
  | _ => none }
def FnExactAfterReturnsWrongFalsely : Prop := fnExactAfterReturnsRow.holds Try.pinned (OpenSpec.ofChange fnExactAfterReturnsWrong)

/-- 'laws.FnReturned': WHATEVER THE INPUT: true; the input reads as it did. -/
def fnReturnedSpec : ChangeSpec := { name := "fnReturned", fn := fun _ => fun
  | [d] => { results := [.lit (.bool true)], args := [d] }
  | _ => none }
def fnReturnedRow : OpenClaim := { program := "ytccgbilgfnoheaa", sum := "0ac6deee28b946ccff7baa1a0234b80331c4970f6d81d9045d756ede7fe91d79", func := "loop.example/g00980/laws.FnReturned", spec := "fnReturned", unfollowed := true, recurses := true, apart := false }
def FnReturnedSaid : Prop := fnReturnedRow.holds Try.pinned (OpenSpec.ofChange fnReturnedSpec)

/-- ITS FALSE NEIGHBOUR: 'it returns false'. Refute it at one input. -/
def fnReturnedWrong : ChangeSpec := { name := "fnReturned", fn := fun _ => fun
  | [d] => { results := [.lit (.bool false)], args := [d] }
  | _ => none }
def FnReturnedWrongFalsely : Prop := fnReturnedRow.holds Try.pinned (OpenSpec.ofChange fnReturnedWrong)

/-- 'laws.FnKeysOnce': WHATEVER THE INPUT: true; the input reads as it did. -/
def fnKeysOnceSpec : ChangeSpec := { name := "fnKeysOnce", fn := fun _ => fun
  | [d] => { results := [.lit (.bool true)], args := [d] }
  | _ => none }
def fnKeysOnceRow : OpenClaim := { program := "ytccgbilgfnoheaa", sum := "0ac6deee28b946ccff7baa1a0234b80331c4970f6d81d9045d756ede7fe91d79", func := "loop.example/g00980/laws.FnKeysOnce", spec := "fnKeysOnce", unfollowed := true, recurses := true, apart := false }
def FnKeysOnceSaid : Prop := fnKeysOnceRow.holds Try.pinned (OpenSpec.ofChange fnKeysOnceSpec)

/-- ITS FALSE NEIGHBOUR: 'it returns false'. Refute it at one input. -/
def fnKeysOnceWrong : ChangeSpec := { name := "fnKeysOnce", fn := fun _ => fun
  | [d] => { results := [.lit (.bool false)], args := [d] }
  | _ => none }
def FnKeysOnceWrongFalsely : Prop := fnKeysOnceRow.holds Try.pinned (OpenSpec.ofChange fnKeysOnceWrong)

/-- 'laws.FnExactRunCrash': WHATEVER THE INPUT: true; the input reads as it did. -/
def fnExactRunCrashSpec : ChangeSpec := { name := "fnExactRunCrash", fn := fun _ => fun
  | [d1, d2, d3] => { results := [.lit (.bool true)], args := [d1, d2, d3] }
  | _ => none }
def fnExactRunCrashRow : OpenClaim := { program := "ytccgbilgfnoheaa", sum := "0ac6deee28b946ccff7baa1a0234b80331c4970f6d81d9045d756ede7fe91d79", func := "loop.example/g00980/laws.FnExactRunCrash", spec := "fnExactRunCrash", unfollowed := true, recurses := true, apart := false }
def FnExactRunCrashSaid : Prop := fnExactRunCrashRow.holds Try.pinned (OpenSpec.ofChange fnExactRunCrashSpec)

/-- ITS FALSE NEIGHBOUR: 'it returns false'. Refute it at one input. -/
def fnExactRunCrashWrong : ChangeSpec := { name := "fnExactRunCrash", fn := fun _ => fun
  | [d1, d2, d3] => { results := [.lit (.bool false)], args := [d1, d2, d3] }
  | _ => none }
def FnExactRunCrashWrongFalsely : Prop := fnExactRunCrashRow.holds Try.pinned (OpenSpec.ofChange fnExactRunCrashWrong)

/-- 'laws.FnExactConfirm': WHATEVER THE INPUT: true; the input reads as it did. -/
def fnExactConfirmSpec : ChangeSpec := { name := "fnExactConfirm", fn := fun _ => fun
  | [d1, d2] => { results := [.lit (.bool true)], args := [d1, d2] }
  | _ => none }
def fnExactConfirmRow : OpenClaim := { program := "ytccgbilgfnoheaa", sum := "0ac6deee28b946ccff7baa1a0234b80331c4970f6d81d9045d756ede7fe91d79", func := "loop.example/g00980/laws.FnExactConfirm", spec := "fnExactConfirm", unfollowed := true, recurses := true, apart := false }
def FnExactConfirmSaid : Prop := fnExactConfirmRow.holds Try.pinned (OpenSpec.ofChange fnExactConfirmSpec)

/-- ITS FALSE NEIGHBOUR: 'it returns false'. Refute it at one input. -/
def fnExactConfirmWrong : ChangeSpec := { name := "fnExactConfirm", fn := fun _ => fun
  | [d1, d2] => { results := [.lit (.bool false)], args := [d1, d2] }
  | _ => none }
def FnExactConfirmWrongFalsely : Prop := fnExactConfirmRow.holds Try.pinned (OpenSpec.ofChange fnExactConfirmWrong)

/-- 'laws.FnExactSendNext': WHATEVER THE INPUT: true; the input reads as it did. -/
def fnExactSendNextSpec : ChangeSpec := { name := "fnExactSendNext", fn := fun _ => fun
  | [d1, d2] => { results := [.lit (.bool true)], args := [d1, d2] }
  | _ => none }
def fnExactSendNextRow : OpenClaim := { program := "ytccgbilgfnoheaa", sum := "0ac6deee28b946ccff7baa1a0234b80331c4970f6d81d9045d756ede7fe91d79", func := "loop.example/g00980/laws.FnExactSendNext", spec := "fnExactSendNext", unfollowed := true, recurses := true, apart := false }
def FnExactSendNextSaid : Prop := fnExactSendNextRow.holds Try.pinned (OpenSpec.ofChange fnExactSendNextSpec)

/-- ITS FALSE NEIGHBOUR: 'it returns false'. Refute it at one input. -/
def fnExactSendNextWrong : ChangeSpec := { name := "fnExactSendNext", fn := fun _ => fun
  | [d1, d2] => { results := [.lit (.bool false)], args := [d1, d2] }
  | _ => none }
def FnExactSendNextWrongFalsely : Prop := fnExactSendNextRow.holds Try.pinned (OpenSpec.ofChange fnExactSendNextWrong)

/-- 'laws.FnExactFinish': WHATEVER THE INPUT: true; the input reads as it did. -/
def fnExactFinishSpec : ChangeSpec := { name := "fnExactFinish", fn := fun _ => fun
  | [d1, d2] => { results := [.lit (.bool true)], args := [d1, d2] }
  | _ => none }
def fnExactFinishRow : OpenClaim := { program := "ytccgbilgfnoheaa", sum := "0ac6deee28b946ccff7baa1a0234b80331c4970f6d81d9045d756ede7fe91d79", func := "loop.example/g00980/laws.FnExactFinish", spec := "fnExactFinish", unfollowed := true, recurses := true, apart := false }
def FnExactFinishSaid : Prop := fnExactFinishRow.holds Try.pinned (OpenSpec.ofChange fnExactFinishSpec)

/-- ITS FALSE NEIGHBOUR: 'it returns false'. Refute it at one input. -/
def fnExactFinishWrong : ChangeSpec := { name := "fnExactFinish", fn := fun _ => fun
  | [d1, d2] => { results := [.lit (.bool false)], args := [d1, d2] }
  | _ => none }
def FnExactFinishWrongFalsely : Prop := fnExactFinishRow.holds Try.pinned (OpenSpec.ofChange fnExactFinishWrong)

/- THE SECOND FORM. 'bulk': how many values and letters a reading holds, each counted each time it is reached (what is shared counts as often as it is met; a slice's spare places count too). A statement '..UptoSaid' is the law's where the arguments, and the package variables that the reading takes, are together of bulk at most 1048576: NARROWER than '..Said'. Prove '..Said' where nothing that the law and all that it calls make is longer than what came in: it says more and counts as full. Else prove '..UptoSaid'. A law counts once. -/
mutual
def uptoBulk {H : Type} : DataW H → Nat
  | .lit (.string bytes) => bytes.length + 1
  | .lit _ => 1
  | .nil => 1
  | .ptr d => uptoBulk d + 1
  | .slice elems spare => uptoBulkAll elems + uptoBulkAll spare + 1
  | .agg parts => uptoBulkAll parts + 1
  | .iface _ d => uptoBulk d + 1
  | .map entries => uptoBulkEntries entries + 1
  | .held _ => 1
def uptoBulkAll {H : Type} : List (DataW H) → Nat
  | [] => 0
  | d :: r => uptoBulk d + uptoBulkAll r
def uptoBulkEntries {H : Type} : List (Lit × DataW H) → Nat
  | [] => 0
  | x :: r => uptoBulkEntry x + uptoBulkEntries r
def uptoBulkEntry {H : Type} : Lit × DataW H → Nat
  | (.string bytes, d) => bytes.length + uptoBulk d + 1
  | (_, d) => uptoBulk d + 1
 end
def uptoSmall : (H : Type) → List (DataW H) → Bool := fun _ ds => decide (uptoBulkAll ds ≤ 1048576)
def OpenSpec.upto (s : _root_.Go.ChangeSpec) : _root_.Go.OpenSpec := { _root_.Go.OpenSpec.ofChange s with cond := some uptoSmall }

/-- 'laws.FnPaidOnce', WHERE WHAT IT READS IS OF BULK AT MOST 1048576: true; the input reads as it did. -/
def fnPaidOnceUptoRow : OpenClaim := { program := "ytccgbilgfnoheaa", sum := "0ac6deee28b946ccff7baa1a0234b80331c4970f6d81d9045d756ede7fe91d79", func := "loop.example/g00980/laws.FnPaidOnce", spec := "fnPaidOnce", unfollowed := true, recurses := true, apart := false, narrowed := true }
def FnPaidOnceUptoSaid : Prop := fnPaidOnceUptoRow.holds Try.pinned (OpenSpec.upto fnPaidOnceSpec)

/-- 'laws.FnExactBankOk', WHERE WHAT IT READS IS OF BULK AT MOST 1048576: true; the input reads as it did. -/
def fnExactBankOkUptoRow : OpenClaim := { program := "ytccgbilgfnoheaa", sum := "0ac6deee28b946ccff7baa1a0234b80331c4970f6d81d9045d756ede7fe91d79", func := "loop.example/g00980/laws.FnExactBankOk", spec := "fnExactBankOk", unfollowed := true, recurses := true, apart := false, narrowed := true }
def FnExactBankOkUptoSaid : Prop := fnExactBankOkUptoRow.holds Try.pinned (OpenSpec.upto fnExactBankOkSpec)

/-- 'laws.FnExactRunOk', WHERE WHAT IT READS IS OF BULK AT MOST 1048576: true; the input reads as it did. -/
def fnExactRunOkUptoRow : OpenClaim := { program := "ytccgbilgfnoheaa", sum := "0ac6deee28b946ccff7baa1a0234b80331c4970f6d81d9045d756ede7fe91d79", func := "loop.example/g00980/laws.FnExactRunOk", spec := "fnExactRunOk", unfollowed := true, recurses := true, apart := false, narrowed := true }
def FnExactRunOkUptoSaid : Prop := fnExactRunOkUptoRow.holds Try.pinned (OpenSpec.upto fnExactRunOkSpec)

/-- 'laws.FnExactRunNew', WHERE WHAT IT READS IS OF BULK AT MOST 1048576: true; the input reads as it did. -/
def fnExactRunNewUptoRow : OpenClaim := { program := "ytccgbilgfnoheaa", sum := "0ac6deee28b946ccff7baa1a0234b80331c4970f6d81d9045d756ede7fe91d79", func := "loop.example/g00980/laws.FnExactRunNew", spec := "fnExactRunNew", unfollowed := true, recurses := true, apart := false, narrowed := true }
def FnExactRunNewUptoSaid : Prop := fnExactRunNewUptoRow.holds Try.pinned (OpenSpec.upto fnExactRunNewSpec)

/-- 'laws.FnNewRuns', WHERE WHAT IT READS IS OF BULK AT MOST 1048576: true; the input reads as it did. -/
def fnNewRunsUptoRow : OpenClaim := { program := "ytccgbilgfnoheaa", sum := "0ac6deee28b946ccff7baa1a0234b80331c4970f6d81d9045d756ede7fe91d79", func := "loop.example/g00980/laws.FnNewRuns", spec := "fnNewRuns", unfollowed := true, recurses := true, apart := false, narrowed := true }
def FnNewRunsUptoSaid : Prop := fnNewRunsUptoRow.holds Try.pinned (OpenSpec.upto fnNewRunsSpec)

/-- 'laws.FnExactAccept', WHERE WHAT IT READS IS OF BULK AT MOST 1048576: true; the input reads as it did. -/
def fnExactAcceptUptoRow : OpenClaim := { program := "ytccgbilgfnoheaa", sum := "0ac6deee28b946ccff7baa1a0234b80331c4970f6d81d9045d756ede7fe91d79", func := "loop.example/g00980/laws.FnExactAccept", spec := "fnExactAccept", unfollowed := true, recurses := true, apart := false, narrowed := true }
def FnExactAcceptUptoSaid : Prop := fnExactAcceptUptoRow.holds Try.pinned (OpenSpec.upto fnExactAcceptSpec)

/-- 'laws.FnExactAfterReturns', WHERE WHAT IT READS IS OF BULK AT MOST 1048576: true; the input reads as it did. -/
def fnExactAfterReturnsUptoRow : OpenClaim := { program := "ytccgbilgfnoheaa", sum := "0ac6deee28b946ccff7baa1a0234b80331c4970f6d81d9045d756ede7fe91d79", func := "loop.example/g00980/laws.FnExactAfterReturns", spec := "fnExactAfterReturns", unfollowed := true, recurses := true, apart := false, narrowed := true }
def FnExactAfterReturnsUptoSaid : Prop := fnExactAfterReturnsUptoRow.holds Try.pinned (OpenSpec.upto fnExactAfterReturnsSpec)

/-- 'laws.FnReturned', WHERE WHAT IT READS IS OF BULK AT MOST 1048576: true; the input reads as it did. -/
def fnReturnedUptoRow : OpenClaim := { program := "ytccgbilgfnoheaa", sum := "0ac6deee28b946ccff7baa1a0234b80331c4970f6d81d9045d756ede7fe91d79", func := "loop.example/g00980/laws.FnReturned", spec := "fnReturned", unfollowed := true, recurses := true, apart := false, narrowed := true }
def FnReturnedUptoSaid : Prop := fnReturnedUptoRow.holds Try.pinned (OpenSpec.upto fnReturnedSpec)

/-- 'laws.FnKeysOnce', WHERE WHAT IT READS IS OF BULK AT MOST 1048576: true; the input reads as it did. -/
def fnKeysOnceUptoRow : OpenClaim := { program := "ytccgbilgfnoheaa", sum := "0ac6deee28b946ccff7baa1a0234b80331c4970f6d81d9045d756ede7fe91d79", func := "loop.example/g00980/laws.FnKeysOnce", spec := "fnKeysOnce", unfollowed := true, recurses := true, apart := false, narrowed := true }
def FnKeysOnceUptoSaid : Prop := fnKeysOnceUptoRow.holds Try.pinned (OpenSpec.upto fnKeysOnceSpec)

/-- 'laws.FnExactRunCrash', WHERE WHAT IT READS IS OF BULK AT MOST 1048576: true; the input reads as it did. -/
def fnExactRunCrashUptoRow : OpenClaim := { program := "ytccgbilgfnoheaa", sum := "0ac6deee28b946ccff7baa1a0234b80331c4970f6d81d9045d756ede7fe91d79", func := "loop.example/g00980/laws.FnExactRunCrash", spec := "fnExactRunCrash", unfollowed := true, recurses := true, apart := false, narrowed := true }
def FnExactRunCrashUptoSaid : Prop := fnExactRunCrashUptoRow.holds Try.pinned (OpenSpec.upto fnExactRunCrashSpec)

/-- 'laws.FnExactConfirm', WHERE WHAT IT READS IS OF BULK AT MOST 1048576: true; the input reads as it did. -/
def fnExactConfirmUptoRow : OpenClaim := { program := "ytccgbilgfnoheaa", sum := "0ac6deee28b946ccff7baa1a0234b80331c4970f6d81d9045d756ede7fe91d79", func := "loop.example/g00980/laws.FnExactConfirm", spec := "fnExactConfirm", unfollowed := true, recurses := true, apart := false, narrowed := true }
def FnExactConfirmUptoSaid : Prop := fnExactConfirmUptoRow.holds Try.pinned (OpenSpec.upto fnExactConfirmSpec)

/-- 'laws.FnExactSendNext', WHERE WHAT IT READS IS OF BULK AT MOST 1048576: true; the input reads as it did. -/
def fnExactSendNextUptoRow : OpenClaim := { program := "ytccgbilgfnoheaa", sum := "0ac6deee28b946ccff7baa1a0234b80331c4970f6d81d9045d756ede7fe91d79", func := "loop.example/g00980/laws.FnExactSendNext", spec := "fnExactSendNext", unfollowed := true, recurses := true, apart := false, narrowed := true }
def FnExactSendNextUptoSaid : Prop := fnExactSendNextUptoRow.holds Try.pinned (OpenSpec.upto fnExactSendNextSpec)

/-- 'laws.FnExactFinish', WHERE WHAT IT READS IS OF BULK AT MOST 1048576: true; the input reads as it did. -/
def fnExactFinishUptoRow : OpenClaim := { program := "ytccgbilgfnoheaa", sum := "0ac6deee28b946ccff7baa1a0234b80331c4970f6d81d9045d756ede7fe91d79", func := "loop.example/g00980/laws.FnExactFinish", spec := "fnExactFinish", unfollowed := true, recurses := true, apart := false, narrowed := true }
def FnExactFinishUptoSaid : Prop := fnExactFinishUptoRow.holds Try.pinned (OpenSpec.upto fnExactFinishSpec)

end Rows
end Go.Proofs.Ytccgbilgfnoheaa
