/-
  No cell of these rows narrows 'for every input' (looked for: loops, veiled, ifaces, maps, wideKeys, modest, calm, conditions, laid).
  DERIVED. THE GIVEN ROWS OF THIS SEAT. 7 by the template 'for every input the law returns true; each argument reads behind the call as it read before'; 0 by the template 'total and deterministic' (their statements: YtjfmknhnplefnaaGreatTotals.lean).
  GIVEN WITH THE SEED: the statements are not yours to turn. If you find one false, say at which input.
  Laid BY PROGRAM, IN A SANDBOX (cutbox-rows.mjs): the forced cells as the released guide's own fill.sh prints them over the translation 3c468404bc17f00a… (all of the seat's roots in one cut). By AI agents, Wed Nov 11 2026. No macro, syntax, notation, axiom, sorry.
-/
import Derived.Test.YtjfmknhnplefnaaGreatChecked
import GoSem.Claim
import GoSem.ClaimJoined
import GoSem.ClaimMapViews
import Derived.JoinedTies
import Derived.KernelRfl
namespace Go.Proofs.YtjfmknhnplefnaaGreat
/- THE CELL 'sum', in the pinned program and in every row, IS THE sha256 OF THE DUMP (.gsa) THAT YtjfmknhnplefnaaGreatProg.lean LOADS. Nothing in Lean hashes anything: it is a label: what it is worth is what the hold of that sum in a sandbox is worth. -/
noncomputable def Tryz.pinned : Pinned := { name := "ytjfmknhnplefnaagreat", sum := "3c468404bc17f00aad5c624e4d7bc304c400bfd4f29bf7e3fc3e1593477a67f1", checked := Tryz.checked }
namespace Rows
def none {H : Type} : Left H := { results := [], args := [] }

/-- 'laws.FnEntitled': WHATEVER THE INPUT: true; the input reads as it did. -/
def fnEntitledSpec : ChangeSpec := { name := "fnEntitled", fn := fun _ => fun
  | [d] => { results := [.lit (.bool true)], args := [d] }
  | _ => none }
def fnEntitledRow : OpenClaim := { program := "ytjfmknhnplefnaagreat", sum := "3c468404bc17f00aad5c624e4d7bc304c400bfd4f29bf7e3fc3e1593477a67f1", func := "loop.example/g00980/laws.FnEntitled", spec := "fnEntitled", unfollowed := true, recurses := true, apart := false }
def FnEntitledSaid : Prop := fnEntitledRow.holds Tryz.pinned (OpenSpec.ofChange fnEntitledSpec)

/-- ITS FALSE NEIGHBOUR: 'it returns false'. Refute it at one input. -/
def fnEntitledWrong : ChangeSpec := { name := "fnEntitled", fn := fun _ => fun
  | [d] => { results := [.lit (.bool false)], args := [d] }
  | _ => none }
def FnEntitledWrongFalsely : Prop := fnEntitledRow.holds Tryz.pinned (OpenSpec.ofChange fnEntitledWrong)

/-- 'laws.FnCorrected': WHATEVER THE INPUT: true; the input reads as it did. -/
def fnCorrectedSpec : ChangeSpec := { name := "fnCorrected", fn := fun _ => fun
  | [d] => { results := [.lit (.bool true)], args := [d] }
  | _ => none }
def fnCorrectedRow : OpenClaim := { program := "ytjfmknhnplefnaagreat", sum := "3c468404bc17f00aad5c624e4d7bc304c400bfd4f29bf7e3fc3e1593477a67f1", func := "loop.example/g00980/laws.FnCorrected", spec := "fnCorrected", unfollowed := true, recurses := true, apart := false }
def FnCorrectedSaid : Prop := fnCorrectedRow.holds Tryz.pinned (OpenSpec.ofChange fnCorrectedSpec)

/-- ITS FALSE NEIGHBOUR: 'it returns false'. Refute it at one input. -/
def fnCorrectedWrong : ChangeSpec := { name := "fnCorrected", fn := fun _ => fun
  | [d] => { results := [.lit (.bool false)], args := [d] }
  | _ => none }
def FnCorrectedWrongFalsely : Prop := fnCorrectedRow.holds Tryz.pinned (OpenSpec.ofChange fnCorrectedWrong)

/-- 'laws.FnExactVarsFor': WHATEVER THE INPUT: true; the input reads as it did. -/
def fnExactVarsForSpec : ChangeSpec := { name := "fnExactVarsFor", fn := fun _ => fun
  | [d1, d2, d3] => { results := [.lit (.bool true)], args := [d1, d2, d3] }
  | _ => none }
def fnExactVarsForRow : OpenClaim := { program := "ytjfmknhnplefnaagreat", sum := "3c468404bc17f00aad5c624e4d7bc304c400bfd4f29bf7e3fc3e1593477a67f1", func := "loop.example/g00980/laws.FnExactVarsFor", spec := "fnExactVarsFor", unfollowed := true, recurses := true, apart := false }
def FnExactVarsForSaid : Prop := fnExactVarsForRow.holds Tryz.pinned (OpenSpec.ofChange fnExactVarsForSpec)

/-- ITS FALSE NEIGHBOUR: 'it returns false'. Refute it at one input. -/
def fnExactVarsForWrong : ChangeSpec := { name := "fnExactVarsFor", fn := fun _ => fun
  | [d1, d2, d3] => { results := [.lit (.bool false)], args := [d1, d2, d3] }
  | _ => none }
def FnExactVarsForWrongFalsely : Prop := fnExactVarsForRow.holds Tryz.pinned (OpenSpec.ofChange fnExactVarsForWrong)

/-- 'laws.FnExactEntitlementAt': WHATEVER THE INPUT: true; the input reads as it did. -/
def fnExactEntitlementAtSpec : ChangeSpec := { name := "fnExactEntitlementAt", fn := fun _ => fun
  | [d1, d2, d3] => { results := [.lit (.bool true)], args := [d1, d2, d3] }
  | _ => none }
def fnExactEntitlementAtRow : OpenClaim := { program := "ytjfmknhnplefnaagreat", sum := "3c468404bc17f00aad5c624e4d7bc304c400bfd4f29bf7e3fc3e1593477a67f1", func := "loop.example/g00980/laws.FnExactEntitlementAt", spec := "fnExactEntitlementAt", unfollowed := true, recurses := true, apart := false }
def FnExactEntitlementAtSaid : Prop := fnExactEntitlementAtRow.holds Tryz.pinned (OpenSpec.ofChange fnExactEntitlementAtSpec)

/-- ITS FALSE NEIGHBOUR: 'it returns false'. Refute it at one input. -/
def fnExactEntitlementAtWrong : ChangeSpec := { name := "fnExactEntitlementAt", fn := fun _ => fun
  | [d1, d2, d3] => { results := [.lit (.bool false)], args := [d1, d2, d3] }
  | _ => none }
def FnExactEntitlementAtWrongFalsely : Prop := fnExactEntitlementAtRow.holds Tryz.pinned (OpenSpec.ofChange fnExactEntitlementAtWrong)

/-- 'laws.FnExactFirstCorrection': WHATEVER THE INPUT: true; the input reads as it did. -/
def fnExactFirstCorrectionSpec : ChangeSpec := { name := "fnExactFirstCorrection", fn := fun _ => fun
  | [d1, d2, d3, d4, d5] => { results := [.lit (.bool true)], args := [d1, d2, d3, d4, d5] }
  | _ => none }
def fnExactFirstCorrectionRow : OpenClaim := { program := "ytjfmknhnplefnaagreat", sum := "3c468404bc17f00aad5c624e4d7bc304c400bfd4f29bf7e3fc3e1593477a67f1", func := "loop.example/g00980/laws.FnExactFirstCorrection", spec := "fnExactFirstCorrection", unfollowed := true, recurses := true, apart := false }
def FnExactFirstCorrectionSaid : Prop := fnExactFirstCorrectionRow.holds Tryz.pinned (OpenSpec.ofChange fnExactFirstCorrectionSpec)

/-- ITS FALSE NEIGHBOUR: 'it returns false'. Refute it at one input. -/
def fnExactFirstCorrectionWrong : ChangeSpec := { name := "fnExactFirstCorrection", fn := fun _ => fun
  | [d1, d2, d3, d4, d5] => { results := [.lit (.bool false)], args := [d1, d2, d3, d4, d5] }
  | _ => none }
def FnExactFirstCorrectionWrongFalsely : Prop := fnExactFirstCorrectionRow.holds Tryz.pinned (OpenSpec.ofChange fnExactFirstCorrectionWrong)

/-- 'laws.FnExactEntitlements': WHATEVER THE INPUT: true; the input reads as it did. -/
def fnExactEntitlementsSpec : ChangeSpec := { name := "fnExactEntitlements", fn := fun _ => fun
  | [d1, d2, d3, d4] => { results := [.lit (.bool true)], args := [d1, d2, d3, d4] }
  | _ => none }
def fnExactEntitlementsRow : OpenClaim := { program := "ytjfmknhnplefnaagreat", sum := "3c468404bc17f00aad5c624e4d7bc304c400bfd4f29bf7e3fc3e1593477a67f1", func := "loop.example/g00980/laws.FnExactEntitlements", spec := "fnExactEntitlements", unfollowed := true, recurses := true, apart := false }
def FnExactEntitlementsSaid : Prop := fnExactEntitlementsRow.holds Tryz.pinned (OpenSpec.ofChange fnExactEntitlementsSpec)

/-- ITS FALSE NEIGHBOUR: 'it returns false'. Refute it at one input. -/
def fnExactEntitlementsWrong : ChangeSpec := { name := "fnExactEntitlements", fn := fun _ => fun
  | [d1, d2, d3, d4] => { results := [.lit (.bool false)], args := [d1, d2, d3, d4] }
  | _ => none }
def FnExactEntitlementsWrongFalsely : Prop := fnExactEntitlementsRow.holds Tryz.pinned (OpenSpec.ofChange fnExactEntitlementsWrong)

/-- 'laws.FnExactCorrectionsIn': WHATEVER THE INPUT: true; the input reads as it did. -/
def fnExactCorrectionsInSpec : ChangeSpec := { name := "fnExactCorrectionsIn", fn := fun _ => fun
  | [d1, d2, d3, d4, d5] => { results := [.lit (.bool true)], args := [d1, d2, d3, d4, d5] }
  | _ => none }
def fnExactCorrectionsInRow : OpenClaim := { program := "ytjfmknhnplefnaagreat", sum := "3c468404bc17f00aad5c624e4d7bc304c400bfd4f29bf7e3fc3e1593477a67f1", func := "loop.example/g00980/laws.FnExactCorrectionsIn", spec := "fnExactCorrectionsIn", unfollowed := true, recurses := true, apart := false }
def FnExactCorrectionsInSaid : Prop := fnExactCorrectionsInRow.holds Tryz.pinned (OpenSpec.ofChange fnExactCorrectionsInSpec)

/-- ITS FALSE NEIGHBOUR: 'it returns false'. Refute it at one input. -/
def fnExactCorrectionsInWrong : ChangeSpec := { name := "fnExactCorrectionsIn", fn := fun _ => fun
  | [d1, d2, d3, d4, d5] => { results := [.lit (.bool false)], args := [d1, d2, d3, d4, d5] }
  | _ => none }
def FnExactCorrectionsInWrongFalsely : Prop := fnExactCorrectionsInRow.holds Tryz.pinned (OpenSpec.ofChange fnExactCorrectionsInWrong)

/- THE SECOND FORM. 'bulk': how many values and letters a reading holds, each counted each time it is reached (what is shared counts as often as it is met; a slice's spare places count too). A statement '..UptoSaid' is the law's where the arguments, and the package variables that the reading takes, are together of bulk at most 1048576: NARROWER than '..Said'. Prove '..Said' where nothing that the law and all that it calls make is longer than what came in: it says more and counts as full. Else prove '..UptoSaid'. A law counts once. -/
mutual
def uptoBulk {H : Type} : DataW H → Nat
  | .lit (.string bytes) => bytes.length + 1
  | .lit _ => 1
  | .nil => 1
  | .ptr d => uptoBulk d + 1
  | .slice elems spare => uptoBulkAll elems + uptoBulkAll spare + 1
  | .agg parts => uptoBulkAll parts + 1
  | .iface _ d => uptoBulk d + 1
  | .map entries => uptoBulkEntries entries + 1
  | .held _ => 1
def uptoBulkAll {H : Type} : List (DataW H) → Nat
  | [] => 0
  | d :: r => uptoBulk d + uptoBulkAll r
def uptoBulkEntries {H : Type} : List (Lit × DataW H) → Nat
  | [] => 0
  | x :: r => uptoBulkEntry x + uptoBulkEntries r
def uptoBulkEntry {H : Type} : Lit × DataW H → Nat
  | (.string bytes, d) => bytes.length + uptoBulk d + 1
  | (_, d) => uptoBulk d + 1
 end
def uptoSmall : (H : Type) → List (DataW H) → Bool := fun _ ds => decide (uptoBulkAll ds ≤ 1048576)
def OpenSpec.upto (s : _root_.Go.ChangeSpec) : _root_.Go.OpenSpec := { _root_.Go.OpenSpec.ofChange s with cond := some uptoSmall }

/-- 'laws.FnEntitled', WHERE WHAT IT READS IS OF BULK AT MOST 1048576: true; the input reads as it did. -/
def fnEntitledUptoRow : OpenClaim := { program := "ytjfmknhnplefnaagreat", sum := "3c468404bc17f00aad5c624e4d7bc304c400bfd4f29bf7e3fc3e1593477a67f1", func := "loop.example/g00980/laws.FnEntitled", spec := "fnEntitled", unfollowed := true, recurses := true, apart := false, narrowed := true }
def FnEntitledUptoSaid : Prop := fnEntitledUptoRow.holds Tryz.pinned (OpenSpec.upto fnEntitledSpec)

/-- 'laws.FnCorrected', WHERE WHAT IT READS IS OF BULK AT MOST 1048576: true; the input reads as it did. -/
def fnCorrectedUptoRow : OpenClaim := { program := "ytjfmknhnplefnaagreat", sum := "3c468404bc17f00aad5c624e4d7bc304c400bfd4f29bf7e3fc3e1593477a67f1", func := "loop.example/g00980/laws.FnCorrected", spec := "fnCorrected", unfollowed := true, recurses := true, apart := false, narrowed := true }
def FnCorrectedUptoSaid : Prop := fnCorrectedUptoRow.holds Tryz.pinned (OpenSpec.upto fnCorrectedSpec)

/-- 'laws.FnExactVarsFor', WHERE WHAT IT READS IS OF BULK AT MOST 1048576: true; the input reads as it did. -/
def fnExactVarsForUptoRow : OpenClaim := { program := "ytjfmknhnplefnaagreat", sum := "3c468404bc17f00aad5c624e4d7bc304c400bfd4f29bf7e3fc3e1593477a67f1", func := "loop.example/g00980/laws.FnExactVarsFor", spec := "fnExactVarsFor", unfollowed := true, recurses := true, apart := false, narrowed := true }
def FnExactVarsForUptoSaid : Prop := fnExactVarsForUptoRow.holds Tryz.pinned (OpenSpec.upto fnExactVarsForSpec)

/-- 'laws.FnExactEntitlementAt', WHERE WHAT IT READS IS OF BULK AT MOST 1048576: true; the input reads as it did. -/
def fnExactEntitlementAtUptoRow : OpenClaim := { program := "ytjfmknhnplefnaagreat", sum := "3c468404bc17f00aad5c624e4d7bc304c400bfd4f29bf7e3fc3e1593477a67f1", func := "loop.example/g00980/laws.FnExactEntitlementAt", spec := "fnExactEntitlementAt", unfollowed := true, recurses := true, apart := false, narrowed := true }
def FnExactEntitlementAtUptoSaid : Prop := fnExactEntitlementAtUptoRow.holds Tryz.pinned (OpenSpec.upto fnExactEntitlementAtSpec)

/-- 'laws.FnExactFirstCorrection', WHERE WHAT IT READS IS OF BULK AT MOST 1048576: true; the input reads as it did. -/
def fnExactFirstCorrectionUptoRow : OpenClaim := { program := "ytjfmknhnplefnaagreat", sum := "3c468404bc17f00aad5c624e4d7bc304c400bfd4f29bf7e3fc3e1593477a67f1", func := "loop.example/g00980/laws.FnExactFirstCorrection", spec := "fnExactFirstCorrection", unfollowed := true, recurses := true, apart := false, narrowed := true }
def FnExactFirstCorrectionUptoSaid : Prop := fnExactFirstCorrectionUptoRow.holds Tryz.pinned (OpenSpec.upto fnExactFirstCorrectionSpec)

/-- 'laws.FnExactEntitlements', WHERE WHAT IT READS IS OF BULK AT MOST 1048576: true; the input reads as it did. -/
def fnExactEntitlementsUptoRow : OpenClaim := { program := "ytjfmknhnplefnaagreat", sum := "3c468404bc17f00aad5c624e4d7bc304c400bfd4f29bf7e3fc3e1593477a67f1", func := "loop.example/g00980/laws.FnExactEntitlements", spec := "fnExactEntitlements", unfollowed := true, recurses := true, apart := false, narrowed := true }
def FnExactEntitlementsUptoSaid : Prop := fnExactEntitlementsUptoRow.holds Tryz.pinned (OpenSpec.upto fnExactEntitlementsSpec)

/-- 'laws.FnExactCorrectionsIn', WHERE WHAT IT READS IS OF BULK AT MOST 1048576: true; the input reads as it did. -/
def fnExactCorrectionsInUptoRow : OpenClaim := { program := "ytjfmknhnplefnaagreat", sum := "3c468404bc17f00aad5c624e4d7bc304c400bfd4f29bf7e3fc3e1593477a67f1", func := "loop.example/g00980/laws.FnExactCorrectionsIn", spec := "fnExactCorrectionsIn", unfollowed := true, recurses := true, apart := false, narrowed := true }
def FnExactCorrectionsInUptoSaid : Prop := fnExactCorrectionsInUptoRow.holds Tryz.pinned (OpenSpec.upto fnExactCorrectionsInSpec)

end Rows
end Go.Proofs.YtjfmknhnplefnaaGreat
