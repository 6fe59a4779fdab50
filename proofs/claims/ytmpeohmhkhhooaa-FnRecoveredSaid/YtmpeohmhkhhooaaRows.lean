/-
  No cell of these rows narrows 'for every input' (looked for: loops, veiled, ifaces, maps, wideKeys, modest, calm, conditions, laid).
  DERIVED. THE GIVEN ROWS OF THIS SEAT. 10 by the template 'for every input the law returns true; each argument reads behind the call as it read before'; 0 by the template 'total and deterministic' (their statements: YtmpeohmhkhhooaaTotals.lean).
  GIVEN WITH THE SEED: the statements are not yours to turn. If you find one false, say at which input.
  Laid BY PROGRAM, IN A SANDBOX (cutbox-rows.mjs): the forced cells as the released guide's own fill.sh prints them over the translation e44628974b3dcf51… (all of the seat's roots in one cut). By AI agents, Wed Nov 11 2026. No macro, syntax, notation, axiom, sorry.
-/
import Derived.Test.YtmpeohmhkhhooaaChecked
import GoSem.Claim
import GoSem.ClaimJoined
import GoSem.ClaimMapViews
import Derived.JoinedTies
import Derived.KernelRfl
namespace Go.Proofs.Ytmpeohmhkhhooaa
/- THE CELL 'sum', in the pinned program and in every row, IS THE sha256 OF THE DUMP (.gsa) THAT YtmpeohmhkhhooaaProg.lean LOADS. Nothing in Lean hashes anything: it is a label: what it is worth is what the hold of that sum in a sandbox is worth. -/
noncomputable def Try.pinned : Pinned := { name := "ytmpeohmhkhhooaa", sum := "e44628974b3dcf51dbd0d53bc6351ac72a4d3388f20f210d81c44b45725e2613", checked := Try.checked }
namespace Rows
def none {H : Type} : Left H := { results := [], args := [] }

/-- 'laws.FnExactNetOf': WHATEVER THE INPUT: true; the input reads as it did. -/
def fnExactNetOfSpec : ChangeSpec := { name := "fnExactNetOf", fn := fun _ => fun
  | [d] => { results := [.lit (.bool true)], args := [d] }
  | _ => none }
def fnExactNetOfRow : OpenClaim := { program := "ytmpeohmhkhhooaa", sum := "e44628974b3dcf51dbd0d53bc6351ac72a4d3388f20f210d81c44b45725e2613", func := "loop.example/g00980/laws.FnExactNetOf", spec := "fnExactNetOf", apart := false }
def FnExactNetOfSaid : Prop := fnExactNetOfRow.holds Try.pinned (OpenSpec.ofChange fnExactNetOfSpec)

/-- ITS FALSE NEIGHBOUR: 'it returns false'. Refute it at one input. -/
def fnExactNetOfWrong : ChangeSpec := { name := "fnExactNetOf", fn := fun _ => fun
  | [d] => { results := [.lit (.bool false)], args := [d] }
  | _ => none }
def FnExactNetOfWrongFalsely : Prop := fnExactNetOfRow.holds Try.pinned (OpenSpec.ofChange fnExactNetOfWrong)

/-- 'laws.FnExactRecoveryPlan': WHATEVER THE INPUT: true; the input reads as it did. -/
def fnExactRecoveryPlanSpec : ChangeSpec := { name := "fnExactRecoveryPlan", fn := fun _ => fun
  | [d1, d2, d3] => { results := [.lit (.bool true)], args := [d1, d2, d3] }
  | _ => none }
def fnExactRecoveryPlanRow : OpenClaim := { program := "ytmpeohmhkhhooaa", sum := "e44628974b3dcf51dbd0d53bc6351ac72a4d3388f20f210d81c44b45725e2613", func := "loop.example/g00980/laws.FnExactRecoveryPlan", spec := "fnExactRecoveryPlan", unfollowed := true, recurses := true, apart := false }
def FnExactRecoveryPlanSaid : Prop := fnExactRecoveryPlanRow.holds Try.pinned (OpenSpec.ofChange fnExactRecoveryPlanSpec)

/-- ITS FALSE NEIGHBOUR: 'it returns false'. Refute it at one input. -/
def fnExactRecoveryPlanWrong : ChangeSpec := { name := "fnExactRecoveryPlan", fn := fun _ => fun
  | [d1, d2, d3] => { results := [.lit (.bool false)], args := [d1, d2, d3] }
  | _ => none }
def FnExactRecoveryPlanWrongFalsely : Prop := fnExactRecoveryPlanRow.holds Try.pinned (OpenSpec.ofChange fnExactRecoveryPlanWrong)

/-- 'laws.FnExactWaived': WHATEVER THE INPUT: true; the input reads as it did. -/
def fnExactWaivedSpec : ChangeSpec := { name := "fnExactWaived", fn := fun _ => fun
  | [d1, d2, d3] => { results := [.lit (.bool true)], args := [d1, d2, d3] }
  | _ => none }
def fnExactWaivedRow : OpenClaim := { program := "ytmpeohmhkhhooaa", sum := "e44628974b3dcf51dbd0d53bc6351ac72a4d3388f20f210d81c44b45725e2613", func := "loop.example/g00980/laws.FnExactWaived", spec := "fnExactWaived", unfollowed := true, recurses := true, apart := false }
def FnExactWaivedSaid : Prop := fnExactWaivedRow.holds Try.pinned (OpenSpec.ofChange fnExactWaivedSpec)

/-- ITS FALSE NEIGHBOUR: 'it returns false'. Refute it at one input. -/
def fnExactWaivedWrong : ChangeSpec := { name := "fnExactWaived", fn := fun _ => fun
  | [d1, d2, d3] => { results := [.lit (.bool false)], args := [d1, d2, d3] }
  | _ => none }
def FnExactWaivedWrongFalsely : Prop := fnExactWaivedRow.holds Try.pinned (OpenSpec.ofChange fnExactWaivedWrong)

/-- 'laws.FnExactRecoveredBy': WHATEVER THE INPUT: true; the input reads as it did. -/
def fnExactRecoveredBySpec : ChangeSpec := { name := "fnExactRecoveredBy", fn := fun _ => fun
  | [d1, d2, d3] => { results := [.lit (.bool true)], args := [d1, d2, d3] }
  | _ => none }
def fnExactRecoveredByRow : OpenClaim := { program := "ytmpeohmhkhhooaa", sum := "e44628974b3dcf51dbd0d53bc6351ac72a4d3388f20f210d81c44b45725e2613", func := "loop.example/g00980/laws.FnExactRecoveredBy", spec := "fnExactRecoveredBy", unfollowed := true, recurses := true, apart := false }
def FnExactRecoveredBySaid : Prop := fnExactRecoveredByRow.holds Try.pinned (OpenSpec.ofChange fnExactRecoveredBySpec)

/-- ITS FALSE NEIGHBOUR: 'it returns false'. Refute it at one input. -/
def fnExactRecoveredByWrong : ChangeSpec := { name := "fnExactRecoveredBy", fn := fun _ => fun
  | [d1, d2, d3] => { results := [.lit (.bool false)], args := [d1, d2, d3] }
  | _ => none }
def FnExactRecoveredByWrongFalsely : Prop := fnExactRecoveredByRow.holds Try.pinned (OpenSpec.ofChange fnExactRecoveredByWrong)

/-- 'laws.FnExactNetAmounts': WHATEVER THE INPUT: true; the input reads as it did. -/
def fnExactNetAmountsSpec : ChangeSpec := { name := "fnExactNetAmounts", fn := fun _ => fun
  | [d1, d2, d3] => { results := [.lit (.bool true)], args := [d1, d2, d3] }
  | _ => none }
def fnExactNetAmountsRow : OpenClaim := { program := "ytmpeohmhkhhooaa", sum := "e44628974b3dcf51dbd0d53bc6351ac72a4d3388f20f210d81c44b45725e2613", func := "loop.example/g00980/laws.FnExactNetAmounts", spec := "fnExactNetAmounts", unfollowed := true, recurses := true, apart := false }
def FnExactNetAmountsSaid : Prop := fnExactNetAmountsRow.holds Try.pinned (OpenSpec.ofChange fnExactNetAmountsSpec)

/-- ITS FALSE NEIGHBOUR: 'it returns false'. Refute it at one input. -/
def fnExactNetAmountsWrong : ChangeSpec := { name := "fnExactNetAmounts", fn := fun _ => fun
  | [d1, d2, d3] => { results := [.lit (.bool false)], args := [d1, d2, d3] }
  | _ => none }
def FnExactNetAmountsWrongFalsely : Prop := fnExactNetAmountsRow.holds Try.pinned (OpenSpec.ofChange fnExactNetAmountsWrong)

/-- 'laws.FnRecovered': WHATEVER THE INPUT: true; the input reads as it did. -/
def fnRecoveredSpec : ChangeSpec := { name := "fnRecovered", fn := fun _ => fun
  | [d] => { results := [.lit (.bool true)], args := [d] }
  | _ => none }
def fnRecoveredRow : OpenClaim := { program := "ytmpeohmhkhhooaa", sum := "e44628974b3dcf51dbd0d53bc6351ac72a4d3388f20f210d81c44b45725e2613", func := "loop.example/g00980/laws.FnRecovered", spec := "fnRecovered", unfollowed := true, recurses := true, apart := false }
def FnRecoveredSaid : Prop := fnRecoveredRow.holds Try.pinned (OpenSpec.ofChange fnRecoveredSpec)

/-- ITS FALSE NEIGHBOUR: 'it returns false'. Refute it at one input. -/
def fnRecoveredWrong : ChangeSpec := { name := "fnRecovered", fn := fun _ => fun
  | [d] => { results := [.lit (.bool false)], args := [d] }
  | _ => none }
def FnRecoveredWrongFalsely : Prop := fnRecoveredRow.holds Try.pinned (OpenSpec.ofChange fnRecoveredWrong)

/-- 'laws.FnNetMonths': WHATEVER THE INPUT: true; the input reads as it did. -/
def fnNetMonthsSpec : ChangeSpec := { name := "fnNetMonths", fn := fun _ => fun
  | [d] => { results := [.lit (.bool true)], args := [d] }
  | _ => none }
def fnNetMonthsRow : OpenClaim := { program := "ytmpeohmhkhhooaa", sum := "e44628974b3dcf51dbd0d53bc6351ac72a4d3388f20f210d81c44b45725e2613", func := "loop.example/g00980/laws.FnNetMonths", spec := "fnNetMonths", unfollowed := true, recurses := true, apart := false }
def FnNetMonthsSaid : Prop := fnNetMonthsRow.holds Try.pinned (OpenSpec.ofChange fnNetMonthsSpec)

/-- ITS FALSE NEIGHBOUR: 'it returns false'. Refute it at one input. -/
def fnNetMonthsWrong : ChangeSpec := { name := "fnNetMonths", fn := fun _ => fun
  | [d] => { results := [.lit (.bool false)], args := [d] }
  | _ => none }
def FnNetMonthsWrongFalsely : Prop := fnNetMonthsRow.holds Try.pinned (OpenSpec.ofChange fnNetMonthsWrong)

/-- 'laws.FnExactBackPay': WHATEVER THE INPUT: true; the input reads as it did. -/
def fnExactBackPaySpec : ChangeSpec := { name := "fnExactBackPay", fn := fun _ => fun
  | [d1, d2, d3] => { results := [.lit (.bool true)], args := [d1, d2, d3] }
  | _ => none }
def fnExactBackPayRow : OpenClaim := { program := "ytmpeohmhkhhooaa", sum := "e44628974b3dcf51dbd0d53bc6351ac72a4d3388f20f210d81c44b45725e2613", func := "loop.example/g00980/laws.FnExactBackPay", spec := "fnExactBackPay", apart := false }
def FnExactBackPaySaid : Prop := fnExactBackPayRow.holds Try.pinned (OpenSpec.ofChange fnExactBackPaySpec)

/-- ITS FALSE NEIGHBOUR: 'it returns false'. Refute it at one input. -/
def fnExactBackPayWrong : ChangeSpec := { name := "fnExactBackPay", fn := fun _ => fun
  | [d1, d2, d3] => { results := [.lit (.bool false)], args := [d1, d2, d3] }
  | _ => none }
def FnExactBackPayWrongFalsely : Prop := fnExactBackPayRow.holds Try.pinned (OpenSpec.ofChange fnExactBackPayWrong)

/-- 'laws.FnExactOverpaid': WHATEVER THE INPUT: true; the input reads as it did. -/
def fnExactOverpaidSpec : ChangeSpec := { name := "fnExactOverpaid", fn := fun _ => fun
  | [d1, d2, d3] => { results := [.lit (.bool true)], args := [d1, d2, d3] }
  | _ => none }
def fnExactOverpaidRow : OpenClaim := { program := "ytmpeohmhkhhooaa", sum := "e44628974b3dcf51dbd0d53bc6351ac72a4d3388f20f210d81c44b45725e2613", func := "loop.example/g00980/laws.FnExactOverpaid", spec := "fnExactOverpaid", apart := false }
def FnExactOverpaidSaid : Prop := fnExactOverpaidRow.holds Try.pinned (OpenSpec.ofChange fnExactOverpaidSpec)

/-- ITS FALSE NEIGHBOUR: 'it returns false'. Refute it at one input. -/
def fnExactOverpaidWrong : ChangeSpec := { name := "fnExactOverpaid", fn := fun _ => fun
  | [d1, d2, d3] => { results := [.lit (.bool false)], args := [d1, d2, d3] }
  | _ => none }
def FnExactOverpaidWrongFalsely : Prop := fnExactOverpaidRow.holds Try.pinned (OpenSpec.ofChange fnExactOverpaidWrong)

/-- 'laws.FnBackPaid': WHATEVER THE INPUT: true; the input reads as it did. -/
def fnBackPaidSpec : ChangeSpec := { name := "fnBackPaid", fn := fun _ => fun
  | [d] => { results := [.lit (.bool true)], args := [d] }
  | _ => none }
def fnBackPaidRow : OpenClaim := { program := "ytmpeohmhkhhooaa", sum := "e44628974b3dcf51dbd0d53bc6351ac72a4d3388f20f210d81c44b45725e2613", func := "loop.example/g00980/laws.FnBackPaid", spec := "fnBackPaid", apart := false }
def FnBackPaidSaid : Prop := fnBackPaidRow.holds Try.pinned (OpenSpec.ofChange fnBackPaidSpec)

/-- ITS FALSE NEIGHBOUR: 'it returns false'. Refute it at one input. -/
def fnBackPaidWrong : ChangeSpec := { name := "fnBackPaid", fn := fun _ => fun
  | [d] => { results := [.lit (.bool false)], args := [d] }
  | _ => none }
def FnBackPaidWrongFalsely : Prop := fnBackPaidRow.holds Try.pinned (OpenSpec.ofChange fnBackPaidWrong)

/- THE SECOND FORM. 'bulk': how many values and letters a reading holds, each counted each time it is reached (what is shared counts as often as it is met; a slice's spare places count too). A statement '..UptoSaid' is the law's where the arguments, and the package variables that the reading takes, are together of bulk at most 1048576: NARROWER than '..Said'. Prove '..Said' where nothing that the law and all that it calls make is longer than what came in: it says more and counts as full. Else prove '..UptoSaid'. A law counts once. -/
mutual
def uptoBulk {H : Type} : DataW H → Nat
  | .lit (.string bytes) => bytes.length + 1
  | .lit _ => 1
  | .nil => 1
  | .ptr d => uptoBulk d + 1
  | .slice elems spare => uptoBulkAll elems + uptoBulkAll spare + 1
  | .agg parts => uptoBulkAll parts + 1
  | .iface _ d => uptoBulk d + 1
  | .map entries => uptoBulkEntries entries + 1
  | .held _ => 1
def uptoBulkAll {H : Type} : List (DataW H) → Nat
  | [] => 0
  | d :: r => uptoBulk d + uptoBulkAll r
def uptoBulkEntries {H : Type} : List (Lit × DataW H) → Nat
  | [] => 0
  | x :: r => uptoBulkEntry x + uptoBulkEntries r
def uptoBulkEntry {H : Type} : Lit × DataW H → Nat
  | (.string bytes, d) => bytes.length + uptoBulk d + 1
  | (_, d) => uptoBulk d + 1
 end
def uptoSmall : (H : Type) → List (DataW H) → Bool := fun _ ds => decide (uptoBulkAll ds ≤ 1048576)
def OpenSpec.upto (s : _root_.Go.ChangeSpec) : _root_.Go.OpenSpec := { _root_.Go.OpenSpec.ofChange s with cond := some uptoSmall }

/-- 'laws.FnExactNetOf', WHERE WHAT IT READS IS OF BULK AT MOST 1048576: true; the input reads as it did. -/
def fnExactNetOfUptoRow : OpenClaim := { program := "ytmpeohmhkhhooaa", sum := "e44628974b3dcf51dbd0d53bc6351ac72a4d3388f20f210d81c44b45725e2613", func := "loop.example/g00980/laws.FnExactNetOf", spec := "fnExactNetOf", apart := false, narrowed := true }
def FnExactNetOfUptoSaid : Prop := fnExactNetOfUptoRow.holds Try.pinned (OpenSpec.upto fnExactNetOfSpec)

/-- 'laws.FnExactRecoveryPlan', WHERE WHAT IT READS IS OF BULK AT MOST 1048576: true; the input reads as it did. -/
def fnExactRecoveryPlanUptoRow : OpenClaim := { program := "ytmpeohmhkhhooaa", sum := "e44628974b3dcf51dbd0d53bc6351ac72a4d3388f20f210d81c44b45725e2613", func := "loop.example/g00980/laws.FnExactRecoveryPlan", spec := "fnExactRecoveryPlan", unfollowed := true, recurses := true, apart := false, narrowed := true }
def FnExactRecoveryPlanUptoSaid : Prop := fnExactRecoveryPlanUptoRow.holds Try.pinned (OpenSpec.upto fnExactRecoveryPlanSpec)

/-- 'laws.FnExactWaived', WHERE WHAT IT READS IS OF BULK AT MOST 1048576: true; the input reads as it did. -/
def fnExactWaivedUptoRow : OpenClaim := { program := "ytmpeohmhkhhooaa", sum := "e44628974b3dcf51dbd0d53bc6351ac72a4d3388f20f210d81c44b45725e2613", func := "loop.example/g00980/laws.FnExactWaived", spec := "fnExactWaived", unfollowed := true, recurses := true, apart := false, narrowed := true }
def FnExactWaivedUptoSaid : Prop := fnExactWaivedUptoRow.holds Try.pinned (OpenSpec.upto fnExactWaivedSpec)

/-- 'laws.FnExactRecoveredBy', WHERE WHAT IT READS IS OF BULK AT MOST 1048576: true; the input reads as it did. -/
def fnExactRecoveredByUptoRow : OpenClaim := { program := "ytmpeohmhkhhooaa", sum := "e44628974b3dcf51dbd0d53bc6351ac72a4d3388f20f210d81c44b45725e2613", func := "loop.example/g00980/laws.FnExactRecoveredBy", spec := "fnExactRecoveredBy", unfollowed := true, recurses := true, apart := false, narrowed := true }
def FnExactRecoveredByUptoSaid : Prop := fnExactRecoveredByUptoRow.holds Try.pinned (OpenSpec.upto fnExactRecoveredBySpec)

/-- 'laws.FnExactNetAmounts', WHERE WHAT IT READS IS OF BULK AT MOST 1048576: true; the input reads as it did. -/
def fnExactNetAmountsUptoRow : OpenClaim := { program := "ytmpeohmhkhhooaa", sum := "e44628974b3dcf51dbd0d53bc6351ac72a4d3388f20f210d81c44b45725e2613", func := "loop.example/g00980/laws.FnExactNetAmounts", spec := "fnExactNetAmounts", unfollowed := true, recurses := true, apart := false, narrowed := true }
def FnExactNetAmountsUptoSaid : Prop := fnExactNetAmountsUptoRow.holds Try.pinned (OpenSpec.upto fnExactNetAmountsSpec)

/-- 'laws.FnRecovered', WHERE WHAT IT READS IS OF BULK AT MOST 1048576: true; the input reads as it did. -/
def fnRecoveredUptoRow : OpenClaim := { program := "ytmpeohmhkhhooaa", sum := "e44628974b3dcf51dbd0d53bc6351ac72a4d3388f20f210d81c44b45725e2613", func := "loop.example/g00980/laws.FnRecovered", spec := "fnRecovered", unfollowed := true, recurses := true, apart := false, narrowed := true }
def FnRecoveredUptoSaid : Prop := fnRecoveredUptoRow.holds Try.pinned (OpenSpec.upto fnRecoveredSpec)

/-- 'laws.FnNetMonths', WHERE WHAT IT READS IS OF BULK AT MOST 1048576: true; the input reads as it did. -/
def fnNetMonthsUptoRow : OpenClaim := { program := "ytmpeohmhkhhooaa", sum := "e44628974b3dcf51dbd0d53bc6351ac72a4d3388f20f210d81c44b45725e2613", func := "loop.example/g00980/laws.FnNetMonths", spec := "fnNetMonths", unfollowed := true, recurses := true, apart := false, narrowed := true }
def FnNetMonthsUptoSaid : Prop := fnNetMonthsUptoRow.holds Try.pinned (OpenSpec.upto fnNetMonthsSpec)

/-- 'laws.FnExactBackPay', WHERE WHAT IT READS IS OF BULK AT MOST 1048576: true; the input reads as it did. -/
def fnExactBackPayUptoRow : OpenClaim := { program := "ytmpeohmhkhhooaa", sum := "e44628974b3dcf51dbd0d53bc6351ac72a4d3388f20f210d81c44b45725e2613", func := "loop.example/g00980/laws.FnExactBackPay", spec := "fnExactBackPay", apart := false, narrowed := true }
def FnExactBackPayUptoSaid : Prop := fnExactBackPayUptoRow.holds Try.pinned (OpenSpec.upto fnExactBackPaySpec)

/-- 'laws.FnExactOverpaid', WHERE WHAT IT READS IS OF BULK AT MOST 1048576: true; the input reads as it did. -/
def fnExactOverpaidUptoRow : OpenClaim := { program := "ytmpeohmhkhhooaa", sum := "e44628974b3dcf51dbd0d53bc6351ac72a4d3388f20f210d81c44b45725e2613", func := "loop.example/g00980/laws.FnExactOverpaid", spec := "fnExactOverpaid", apart := false, narrowed := true }
def FnExactOverpaidUptoSaid : Prop := fnExactOverpaidUptoRow.holds Try.pinned (OpenSpec.upto fnExactOverpaidSpec)

/-- 'laws.FnBackPaid', WHERE WHAT IT READS IS OF BULK AT MOST 1048576: true; the input reads as it did. -/
def fnBackPaidUptoRow : OpenClaim := { program := "ytmpeohmhkhhooaa", sum := "e44628974b3dcf51dbd0d53bc6351ac72a4d3388f20f210d81c44b45725e2613", func := "loop.example/g00980/laws.FnBackPaid", spec := "fnBackPaid", apart := false, narrowed := true }
def FnBackPaidUptoSaid : Prop := fnBackPaidUptoRow.holds Try.pinned (OpenSpec.upto fnBackPaidSpec)

end Rows
end Go.Proofs.Ytmpeohmhkhhooaa
