/-
  No cell of these rows narrows 'for every input' (looked for: loops, veiled, ifaces, maps, wideKeys, modest, calm, conditions, laid).
  DERIVED. THE GIVEN ROWS OF THIS SEAT. 12 by the template 'for every input the law returns true; each argument reads behind the call as it read before'; 0 by the template 'total and deterministic' (their statements: YtegcfjnjgklchaaTotals.lean).
  GIVEN WITH THE SEED: the statements are not yours to turn. If you find one false, say at which input.
  Laid BY PROGRAM, IN A SANDBOX (cutbox-rows.mjs): the forced cells as the released guide's own fill.sh prints them over the translation 2abf6b661c41cbad… (all of the seat's roots in one cut). By AI agents, Wed Nov 11 2026. No macro, syntax, notation, axiom, sorry.
-/
import Derived.Test.YtegcfjnjgklchaaChecked
import GoSem.Claim
import GoSem.ClaimJoined
import GoSem.ClaimMapViews
import Derived.JoinedTies
import Derived.KernelRfl
namespace Go.Proofs.Ytegcfjnjgklchaa
/- THE CELL 'sum', in the pinned program and in every row, IS THE sha256 OF THE DUMP (.gsa) THAT YtegcfjnjgklchaaProg.lean LOADS. Nothing in Lean hashes anything: it is a label: what it is worth is what the hold of that sum in a sandbox is worth. -/
noncomputable def Try.pinned : Pinned := { name := "ytegcfjnjgklchaa", sum := "2abf6b661c41cbada1ab4ead1cd1ce30431610a82a7cc79c4e4b79ecd0b6e3d9", checked := Try.checked }
namespace Rows
def none {H : Type} : Left H := { results := [], args := [] }

/-- 'laws.FnExactProofsOk': WHATEVER THE INPUT: true; the input reads as it did. -/
def fnExactProofsOkSpec : ChangeSpec := { name := "fnExactProofsOk", fn := fun _ => fun
  | [d] => { results := [.lit (.bool true)], args := [d] }
  | _ => none }
def fnExactProofsOkRow : OpenClaim := { program := "ytegcfjnjgklchaa", sum := "2abf6b661c41cbada1ab4ead1cd1ce30431610a82a7cc79c4e4b79ecd0b6e3d9", func := "loop.example/g00980/laws.FnExactProofsOk", spec := "fnExactProofsOk", apart := false }
def FnExactProofsOkSaid : Prop := fnExactProofsOkRow.holds Try.pinned (OpenSpec.ofChange fnExactProofsOkSpec)

/-- ITS FALSE NEIGHBOUR: 'it returns false'. Refute it at one input. -/
def fnExactProofsOkWrong : ChangeSpec := { name := "fnExactProofsOk", fn := fun _ => fun
  | [d] => { results := [.lit (.bool false)], args := [d] }
  | _ => none }
def FnExactProofsOkWrongFalsely : Prop := fnExactProofsOkRow.holds Try.pinned (OpenSpec.ofChange fnExactProofsOkWrong)

/-- 'laws.FnExactBracketsOk': WHATEVER THE INPUT: true; the input reads as it did. -/
def fnExactBracketsOkSpec : ChangeSpec := { name := "fnExactBracketsOk", fn := fun _ => fun
  | [d] => { results := [.lit (.bool true)], args := [d] }
  | _ => none }
def fnExactBracketsOkRow : OpenClaim := { program := "ytegcfjnjgklchaa", sum := "2abf6b661c41cbada1ab4ead1cd1ce30431610a82a7cc79c4e4b79ecd0b6e3d9", func := "loop.example/g00980/laws.FnExactBracketsOk", spec := "fnExactBracketsOk", apart := false }
def FnExactBracketsOkSaid : Prop := fnExactBracketsOkRow.holds Try.pinned (OpenSpec.ofChange fnExactBracketsOkSpec)

/-- ITS FALSE NEIGHBOUR: 'it returns false'. Refute it at one input. -/
def fnExactBracketsOkWrong : ChangeSpec := { name := "fnExactBracketsOk", fn := fun _ => fun
  | [d] => { results := [.lit (.bool false)], args := [d] }
  | _ => none }
def FnExactBracketsOkWrongFalsely : Prop := fnExactBracketsOkRow.holds Try.pinned (OpenSpec.ofChange fnExactBracketsOkWrong)

/-- 'laws.FnExactIsSuspended': WHATEVER THE INPUT: true; the input reads as it did. -/
def fnExactIsSuspendedSpec : ChangeSpec := { name := "fnExactIsSuspended", fn := fun _ => fun
  | [d1, d2, d3, d4] => { results := [.lit (.bool true)], args := [d1, d2, d3, d4] }
  | _ => none }
def fnExactIsSuspendedRow : OpenClaim := { program := "ytegcfjnjgklchaa", sum := "2abf6b661c41cbada1ab4ead1cd1ce30431610a82a7cc79c4e4b79ecd0b6e3d9", func := "loop.example/g00980/laws.FnExactIsSuspended", spec := "fnExactIsSuspended", apart := false }
def FnExactIsSuspendedSaid : Prop := fnExactIsSuspendedRow.holds Try.pinned (OpenSpec.ofChange fnExactIsSuspendedSpec)

/-- ITS FALSE NEIGHBOUR: 'it returns false'. Refute it at one input. -/
def fnExactIsSuspendedWrong : ChangeSpec := { name := "fnExactIsSuspended", fn := fun _ => fun
  | [d1, d2, d3, d4] => { results := [.lit (.bool false)], args := [d1, d2, d3, d4] }
  | _ => none }
def FnExactIsSuspendedWrongFalsely : Prop := fnExactIsSuspendedRow.holds Try.pinned (OpenSpec.ofChange fnExactIsSuspendedWrong)

/-- 'laws.FnExactMarginalRate': WHATEVER THE INPUT: true; the input reads as it did. -/
def fnExactMarginalRateSpec : ChangeSpec := { name := "fnExactMarginalRate", fn := fun _ => fun
  | [d1, d2] => { results := [.lit (.bool true)], args := [d1, d2] }
  | _ => none }
def fnExactMarginalRateRow : OpenClaim := { program := "ytegcfjnjgklchaa", sum := "2abf6b661c41cbada1ab4ead1cd1ce30431610a82a7cc79c4e4b79ecd0b6e3d9", func := "loop.example/g00980/laws.FnExactMarginalRate", spec := "fnExactMarginalRate", apart := false }
def FnExactMarginalRateSaid : Prop := fnExactMarginalRateRow.holds Try.pinned (OpenSpec.ofChange fnExactMarginalRateSpec)

/-- ITS FALSE NEIGHBOUR: 'it returns false'. Refute it at one input. -/
def fnExactMarginalRateWrong : ChangeSpec := { name := "fnExactMarginalRate", fn := fun _ => fun
  | [d1, d2] => { results := [.lit (.bool false)], args := [d1, d2] }
  | _ => none }
def FnExactMarginalRateWrongFalsely : Prop := fnExactMarginalRateRow.holds Try.pinned (OpenSpec.ofChange fnExactMarginalRateWrong)

/-- 'laws.FnExactTaxFor': WHATEVER THE INPUT: true; the input reads as it did. -/
def fnExactTaxForSpec : ChangeSpec := { name := "fnExactTaxFor", fn := fun _ => fun
  | [d1, d2] => { results := [.lit (.bool true)], args := [d1, d2] }
  | _ => none }
def fnExactTaxForRow : OpenClaim := { program := "ytegcfjnjgklchaa", sum := "2abf6b661c41cbada1ab4ead1cd1ce30431610a82a7cc79c4e4b79ecd0b6e3d9", func := "loop.example/g00980/laws.FnExactTaxFor", spec := "fnExactTaxFor", apart := false }
def FnExactTaxForSaid : Prop := fnExactTaxForRow.holds Try.pinned (OpenSpec.ofChange fnExactTaxForSpec)

/-- ITS FALSE NEIGHBOUR: 'it returns false'. Refute it at one input. -/
def fnExactTaxForWrong : ChangeSpec := { name := "fnExactTaxFor", fn := fun _ => fun
  | [d1, d2] => { results := [.lit (.bool false)], args := [d1, d2] }
  | _ => none }
def FnExactTaxForWrongFalsely : Prop := fnExactTaxForRow.holds Try.pinned (OpenSpec.ofChange fnExactTaxForWrong)

/-- 'laws.FnMonthlyTaxes': WHATEVER THE INPUT: true; the input reads as it did. -/
def fnMonthlyTaxesSpec : ChangeSpec := { name := "fnMonthlyTaxes", fn := fun _ => fun
  | [d] => { results := [.lit (.bool true)], args := [d] }
  | _ => none }
def fnMonthlyTaxesRow : OpenClaim := { program := "ytegcfjnjgklchaa", sum := "2abf6b661c41cbada1ab4ead1cd1ce30431610a82a7cc79c4e4b79ecd0b6e3d9", func := "loop.example/g00980/laws.FnMonthlyTaxes", spec := "fnMonthlyTaxes", apart := false }
def FnMonthlyTaxesSaid : Prop := fnMonthlyTaxesRow.holds Try.pinned (OpenSpec.ofChange fnMonthlyTaxesSpec)

/-- ITS FALSE NEIGHBOUR: 'it returns false'. Refute it at one input. -/
def fnMonthlyTaxesWrong : ChangeSpec := { name := "fnMonthlyTaxes", fn := fun _ => fun
  | [d] => { results := [.lit (.bool false)], args := [d] }
  | _ => none }
def FnMonthlyTaxesWrongFalsely : Prop := fnMonthlyTaxesRow.holds Try.pinned (OpenSpec.ofChange fnMonthlyTaxesWrong)

/-- 'laws.FnTaxed': WHATEVER THE INPUT: true; the input reads as it did. -/
def fnTaxedSpec : ChangeSpec := { name := "fnTaxed", fn := fun _ => fun
  | [d] => { results := [.lit (.bool true)], args := [d] }
  | _ => none }
def fnTaxedRow : OpenClaim := { program := "ytegcfjnjgklchaa", sum := "2abf6b661c41cbada1ab4ead1cd1ce30431610a82a7cc79c4e4b79ecd0b6e3d9", func := "loop.example/g00980/laws.FnTaxed", spec := "fnTaxed", apart := false }
def FnTaxedSaid : Prop := fnTaxedRow.holds Try.pinned (OpenSpec.ofChange fnTaxedSpec)

/-- ITS FALSE NEIGHBOUR: 'it returns false'. Refute it at one input. -/
def fnTaxedWrong : ChangeSpec := { name := "fnTaxed", fn := fun _ => fun
  | [d] => { results := [.lit (.bool false)], args := [d] }
  | _ => none }
def FnTaxedWrongFalsely : Prop := fnTaxedRow.holds Try.pinned (OpenSpec.ofChange fnTaxedWrong)

/-- 'laws.FnProofs': WHATEVER THE INPUT: true; the input reads as it did. -/
def fnProofsSpec : ChangeSpec := { name := "fnProofs", fn := fun _ => fun
  | [d] => { results := [.lit (.bool true)], args := [d] }
  | _ => none }
def fnProofsRow : OpenClaim := { program := "ytegcfjnjgklchaa", sum := "2abf6b661c41cbada1ab4ead1cd1ce30431610a82a7cc79c4e4b79ecd0b6e3d9", func := "loop.example/g00980/laws.FnProofs", spec := "fnProofs", apart := false }
def FnProofsSaid : Prop := fnProofsRow.holds Try.pinned (OpenSpec.ofChange fnProofsSpec)

/-- ITS FALSE NEIGHBOUR: 'it returns false'. Refute it at one input. -/
def fnProofsWrong : ChangeSpec := { name := "fnProofs", fn := fun _ => fun
  | [d] => { results := [.lit (.bool false)], args := [d] }
  | _ => none }
def FnProofsWrongFalsely : Prop := fnProofsRow.holds Try.pinned (OpenSpec.ofChange fnProofsWrong)

/-- 'laws.FnExactNetYear': WHATEVER THE INPUT: true; the input reads as it did. -/
def fnExactNetYearSpec : ChangeSpec := { name := "fnExactNetYear", fn := fun _ => fun
  | [d1, d2] => { results := [.lit (.bool true)], args := [d1, d2] }
  | _ => none }
def fnExactNetYearRow : OpenClaim := { program := "ytegcfjnjgklchaa", sum := "2abf6b661c41cbada1ab4ead1cd1ce30431610a82a7cc79c4e4b79ecd0b6e3d9", func := "loop.example/g00980/laws.FnExactNetYear", spec := "fnExactNetYear", apart := false }
def FnExactNetYearSaid : Prop := fnExactNetYearRow.holds Try.pinned (OpenSpec.ofChange fnExactNetYearSpec)

/-- ITS FALSE NEIGHBOUR: 'it returns false'. Refute it at one input. -/
def fnExactNetYearWrong : ChangeSpec := { name := "fnExactNetYear", fn := fun _ => fun
  | [d1, d2] => { results := [.lit (.bool false)], args := [d1, d2] }
  | _ => none }
def FnExactNetYearWrongFalsely : Prop := fnExactNetYearRow.holds Try.pinned (OpenSpec.ofChange fnExactNetYearWrong)

/-- 'laws.FnExactHeldBack': WHATEVER THE INPUT: true; the input reads as it did. -/
def fnExactHeldBackSpec : ChangeSpec := { name := "fnExactHeldBack", fn := fun _ => fun
  | [d1, d2, d3, d4] => { results := [.lit (.bool true)], args := [d1, d2, d3, d4] }
  | _ => none }
def fnExactHeldBackRow : OpenClaim := { program := "ytegcfjnjgklchaa", sum := "2abf6b661c41cbada1ab4ead1cd1ce30431610a82a7cc79c4e4b79ecd0b6e3d9", func := "loop.example/g00980/laws.FnExactHeldBack", spec := "fnExactHeldBack", apart := false }
def FnExactHeldBackSaid : Prop := fnExactHeldBackRow.holds Try.pinned (OpenSpec.ofChange fnExactHeldBackSpec)

/-- ITS FALSE NEIGHBOUR: 'it returns false'. Refute it at one input. -/
def fnExactHeldBackWrong : ChangeSpec := { name := "fnExactHeldBack", fn := fun _ => fun
  | [d1, d2, d3, d4] => { results := [.lit (.bool false)], args := [d1, d2, d3, d4] }
  | _ => none }
def FnExactHeldBackWrongFalsely : Prop := fnExactHeldBackRow.holds Try.pinned (OpenSpec.ofChange fnExactHeldBackWrong)

/-- 'laws.FnExactPaidMonths': WHATEVER THE INPUT: true; the input reads as it did. -/
def fnExactPaidMonthsSpec : ChangeSpec := { name := "fnExactPaidMonths", fn := fun _ => fun
  | [d1, d2, d3, d4] => { results := [.lit (.bool true)], args := [d1, d2, d3, d4] }
  | _ => none }
def fnExactPaidMonthsRow : OpenClaim := { program := "ytegcfjnjgklchaa", sum := "2abf6b661c41cbada1ab4ead1cd1ce30431610a82a7cc79c4e4b79ecd0b6e3d9", func := "loop.example/g00980/laws.FnExactPaidMonths", spec := "fnExactPaidMonths", apart := false }
def FnExactPaidMonthsSaid : Prop := fnExactPaidMonthsRow.holds Try.pinned (OpenSpec.ofChange fnExactPaidMonthsSpec)

/-- ITS FALSE NEIGHBOUR: 'it returns false'. Refute it at one input. -/
def fnExactPaidMonthsWrong : ChangeSpec := { name := "fnExactPaidMonths", fn := fun _ => fun
  | [d1, d2, d3, d4] => { results := [.lit (.bool false)], args := [d1, d2, d3, d4] }
  | _ => none }
def FnExactPaidMonthsWrongFalsely : Prop := fnExactPaidMonthsRow.holds Try.pinned (OpenSpec.ofChange fnExactPaidMonthsWrong)

/-- 'laws.FnExactMonthlyTax': WHATEVER THE INPUT: true; the input reads as it did. -/
def fnExactMonthlyTaxSpec : ChangeSpec := { name := "fnExactMonthlyTax", fn := fun _ => fun
  | [d1, d2] => { results := [.lit (.bool true)], args := [d1, d2] }
  | _ => none }
def fnExactMonthlyTaxRow : OpenClaim := { program := "ytegcfjnjgklchaa", sum := "2abf6b661c41cbada1ab4ead1cd1ce30431610a82a7cc79c4e4b79ecd0b6e3d9", func := "loop.example/g00980/laws.FnExactMonthlyTax", spec := "fnExactMonthlyTax", apart := false }
def FnExactMonthlyTaxSaid : Prop := fnExactMonthlyTaxRow.holds Try.pinned (OpenSpec.ofChange fnExactMonthlyTaxSpec)

/-- ITS FALSE NEIGHBOUR: 'it returns false'. Refute it at one input. -/
def fnExactMonthlyTaxWrong : ChangeSpec := { name := "fnExactMonthlyTax", fn := fun _ => fun
  | [d1, d2] => { results := [.lit (.bool false)], args := [d1, d2] }
  | _ => none }
def FnExactMonthlyTaxWrongFalsely : Prop := fnExactMonthlyTaxRow.holds Try.pinned (OpenSpec.ofChange fnExactMonthlyTaxWrong)

/- THE SECOND FORM. 'bulk': how many values and letters a reading holds, each counted each time it is reached (what is shared counts as often as it is met; a slice's spare places count too). A statement '..UptoSaid' is the law's where the arguments, and the package variables that the reading takes, are together of bulk at most 1048576: NARROWER than '..Said'. Prove '..Said' where nothing that the law and all that it calls make is longer than what came in: it says more and counts as full. Else prove '..UptoSaid'. A law counts once. -/
mutual
def uptoBulk {H : Type} : DataW H → Nat
  | .lit (.string bytes) => bytes.length + 1
  | .lit _ => 1
  | .nil => 1
  | .ptr d => uptoBulk d + 1
  | .slice elems spare => uptoBulkAll elems + uptoBulkAll spare + 1
  | .agg parts => uptoBulkAll parts + 1
  | .iface _ d => uptoBulk d + 1
  | .map entries => uptoBulkEntries entries + 1
  | .held _ => 1
def uptoBulkAll {H : Type} : List (DataW H) → Nat
  | [] => 0
  | d :: r => uptoBulk d + uptoBulkAll r
def uptoBulkEntries {H : Type} : List (Lit × DataW H) → Nat
  | [] => 0
  | x :: r => uptoBulkEntry x + uptoBulkEntries r
def uptoBulkEntry {H : Type} : Lit × DataW H → Nat
  | (.string bytes, d) => bytes.length + uptoBulk d + 1
  | (_, d) => uptoBulk d + 1
 end
def uptoSmall : (H : Type) → List (DataW H) → Bool := fun _ ds => decide (uptoBulkAll ds ≤ 1048576)
def OpenSpec.upto (s : _root_.Go.ChangeSpec) : _root_.Go.OpenSpec := { _root_.Go.OpenSpec.ofChange s with cond := some uptoSmall }

/-- 'laws.FnExactProofsOk', WHERE WHAT IT READS IS OF BULK AT MOST 1048576: true; the input reads as it did. -/
def fnExactProofsOkUptoRow : OpenClaim := { program := "ytegcfjnjgklchaa", sum := "2abf6b661c41cbada1ab4ead1cd1ce30431610a82a7cc79c4e4b79ecd0b6e3d9", func := "loop.example/g00980/laws.FnExactProofsOk", spec := "fnExactProofsOk", apart := false, narrowed := true }
def FnExactProofsOkUptoSaid : Prop := fnExactProofsOkUptoRow.holds Try.pinned (OpenSpec.upto fnExactProofsOkSpec)

/-- 'laws.FnExactBracketsOk', WHERE WHAT IT READS IS OF BULK AT MOST 1048576: true; the input reads as it did. -/
def fnExactBracketsOkUptoRow : OpenClaim := { program := "ytegcfjnjgklchaa", sum := "2abf6b661c41cbada1ab4ead1cd1ce30431610a82a7cc79c4e4b79ecd0b6e3d9", func := "loop.example/g00980/laws.FnExactBracketsOk", spec := "fnExactBracketsOk", apart := false, narrowed := true }
def FnExactBracketsOkUptoSaid : Prop := fnExactBracketsOkUptoRow.holds Try.pinned (OpenSpec.upto fnExactBracketsOkSpec)

/-- 'laws.FnExactIsSuspended', WHERE WHAT IT READS IS OF BULK AT MOST 1048576: true; the input reads as it did. -/
def fnExactIsSuspendedUptoRow : OpenClaim := { program := "ytegcfjnjgklchaa", sum := "2abf6b661c41cbada1ab4ead1cd1ce30431610a82a7cc79c4e4b79ecd0b6e3d9", func := "loop.example/g00980/laws.FnExactIsSuspended", spec := "fnExactIsSuspended", apart := false, narrowed := true }
def FnExactIsSuspendedUptoSaid : Prop := fnExactIsSuspendedUptoRow.holds Try.pinned (OpenSpec.upto fnExactIsSuspendedSpec)

/-- 'laws.FnExactMarginalRate', WHERE WHAT IT READS IS OF BULK AT MOST 1048576: true; the input reads as it did. -/
def fnExactMarginalRateUptoRow : OpenClaim := { program := "ytegcfjnjgklchaa", sum := "2abf6b661c41cbada1ab4ead1cd1ce30431610a82a7cc79c4e4b79ecd0b6e3d9", func := "loop.example/g00980/laws.FnExactMarginalRate", spec := "fnExactMarginalRate", apart := false, narrowed := true }
def FnExactMarginalRateUptoSaid : Prop := fnExactMarginalRateUptoRow.holds Try.pinned (OpenSpec.upto fnExactMarginalRateSpec)

/-- 'laws.FnExactTaxFor', WHERE WHAT IT READS IS OF BULK AT MOST 1048576: true; the input reads as it did. -/
def fnExactTaxForUptoRow : OpenClaim := { program := "ytegcfjnjgklchaa", sum := "2abf6b661c41cbada1ab4ead1cd1ce30431610a82a7cc79c4e4b79ecd0b6e3d9", func := "loop.example/g00980/laws.FnExactTaxFor", spec := "fnExactTaxFor", apart := false, narrowed := true }
def FnExactTaxForUptoSaid : Prop := fnExactTaxForUptoRow.holds Try.pinned (OpenSpec.upto fnExactTaxForSpec)

/-- 'laws.FnMonthlyTaxes', WHERE WHAT IT READS IS OF BULK AT MOST 1048576: true; the input reads as it did. -/
def fnMonthlyTaxesUptoRow : OpenClaim := { program := "ytegcfjnjgklchaa", sum := "2abf6b661c41cbada1ab4ead1cd1ce30431610a82a7cc79c4e4b79ecd0b6e3d9", func := "loop.example/g00980/laws.FnMonthlyTaxes", spec := "fnMonthlyTaxes", apart := false, narrowed := true }
def FnMonthlyTaxesUptoSaid : Prop := fnMonthlyTaxesUptoRow.holds Try.pinned (OpenSpec.upto fnMonthlyTaxesSpec)

/-- 'laws.FnTaxed', WHERE WHAT IT READS IS OF BULK AT MOST 1048576: true; the input reads as it did. -/
def fnTaxedUptoRow : OpenClaim := { program := "ytegcfjnjgklchaa", sum := "2abf6b661c41cbada1ab4ead1cd1ce30431610a82a7cc79c4e4b79ecd0b6e3d9", func := "loop.example/g00980/laws.FnTaxed", spec := "fnTaxed", apart := false, narrowed := true }
def FnTaxedUptoSaid : Prop := fnTaxedUptoRow.holds Try.pinned (OpenSpec.upto fnTaxedSpec)

/-- 'laws.FnProofs', WHERE WHAT IT READS IS OF BULK AT MOST 1048576: true; the input reads as it did. -/
def fnProofsUptoRow : OpenClaim := { program := "ytegcfjnjgklchaa", sum := "2abf6b661c41cbada1ab4ead1cd1ce30431610a82a7cc79c4e4b79ecd0b6e3d9", func := "loop.example/g00980/laws.FnProofs", spec := "fnProofs", apart := false, narrowed := true }
def FnProofsUptoSaid : Prop := fnProofsUptoRow.holds Try.pinned (OpenSpec.upto fnProofsSpec)

/-- 'laws.FnExactNetYear', WHERE WHAT IT READS IS OF BULK AT MOST 1048576: true; the input reads as it did. -/
def fnExactNetYearUptoRow : OpenClaim := { program := "ytegcfjnjgklchaa", sum := "2abf6b661c41cbada1ab4ead1cd1ce30431610a82a7cc79c4e4b79ecd0b6e3d9", func := "loop.example/g00980/laws.FnExactNetYear", spec := "fnExactNetYear", apart := false, narrowed := true }
def FnExactNetYearUptoSaid : Prop := fnExactNetYearUptoRow.holds Try.pinned (OpenSpec.upto fnExactNetYearSpec)

/-- 'laws.FnExactHeldBack', WHERE WHAT IT READS IS OF BULK AT MOST 1048576: true; the input reads as it did. -/
def fnExactHeldBackUptoRow : OpenClaim := { program := "ytegcfjnjgklchaa", sum := "2abf6b661c41cbada1ab4ead1cd1ce30431610a82a7cc79c4e4b79ecd0b6e3d9", func := "loop.example/g00980/laws.FnExactHeldBack", spec := "fnExactHeldBack", apart := false, narrowed := true }
def FnExactHeldBackUptoSaid : Prop := fnExactHeldBackUptoRow.holds Try.pinned (OpenSpec.upto fnExactHeldBackSpec)

/-- 'laws.FnExactPaidMonths', WHERE WHAT IT READS IS OF BULK AT MOST 1048576: true; the input reads as it did. -/
def fnExactPaidMonthsUptoRow : OpenClaim := { program := "ytegcfjnjgklchaa", sum := "2abf6b661c41cbada1ab4ead1cd1ce30431610a82a7cc79c4e4b79ecd0b6e3d9", func := "loop.example/g00980/laws.FnExactPaidMonths", spec := "fnExactPaidMonths", apart := false, narrowed := true }
def FnExactPaidMonthsUptoSaid : Prop := fnExactPaidMonthsUptoRow.holds Try.pinned (OpenSpec.upto fnExactPaidMonthsSpec)

/-- 'laws.FnExactMonthlyTax', WHERE WHAT IT READS IS OF BULK AT MOST 1048576: true; the input reads as it did. -/
def fnExactMonthlyTaxUptoRow : OpenClaim := { program := "ytegcfjnjgklchaa", sum := "2abf6b661c41cbada1ab4ead1cd1ce30431610a82a7cc79c4e4b79ecd0b6e3d9", func := "loop.example/g00980/laws.FnExactMonthlyTax", spec := "fnExactMonthlyTax", apart := false, narrowed := true }
def FnExactMonthlyTaxUptoSaid : Prop := fnExactMonthlyTaxUptoRow.holds Try.pinned (OpenSpec.upto fnExactMonthlyTaxSpec)

end Rows
end Go.Proofs.Ytegcfjnjgklchaa
