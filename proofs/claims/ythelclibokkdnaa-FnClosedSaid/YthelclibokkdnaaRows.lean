/-
  No cell of these rows narrows 'for every input' (looked for: loops, veiled, ifaces, maps, wideKeys, modest, calm, conditions, laid).
  DERIVED. THE GIVEN ROWS OF THIS SEAT. 13 by the template 'for every input the law returns true; each argument reads behind the call as it read before'; 0 by the template 'total and deterministic' (their statements: YthelclibokkdnaaTotals.lean).
  GIVEN WITH THE SEED: the statements are not yours to turn. If you find one false, say at which input.
  Laid BY PROGRAM, IN A SANDBOX (cutbox-rows.mjs): the forced cells as the released guide's own fill.sh prints them over the translation 85c53404469502eb… (all of the seat's roots in one cut). By AI agents, Wed Nov 11 2026. No macro, syntax, notation, axiom, sorry.
-/
import Derived.Test.YthelclibokkdnaaChecked
import GoSem.Claim
import GoSem.ClaimJoined
import GoSem.ClaimMapViews
import Derived.JoinedTies
import Derived.KernelRfl
namespace Go.Proofs.Ythelclibokkdnaa
/- THE CELL 'sum', in the pinned program and in every row, IS THE sha256 OF THE DUMP (.gsa) THAT YthelclibokkdnaaProg.lean LOADS. Nothing in Lean hashes anything: it is a label: what it is worth is what the hold of that sum in a sandbox is worth. -/
noncomputable def Try.pinned : Pinned := { name := "ythelclibokkdnaa", sum := "85c53404469502ebaa578391e6b0c4bc3e4300cbb77e751cf3b2ad4fa057e4f8", checked := Try.checked }
namespace Rows
def none {H : Type} : Left H := { results := [], args := [] }

/-- 'laws.FnExactPostingOk': WHATEVER THE INPUT: true; the input reads as it did. -/
def fnExactPostingOkSpec : ChangeSpec := { name := "fnExactPostingOk", fn := fun _ => fun
  | [d] => { results := [.lit (.bool true)], args := [d] }
  | _ => none }
def fnExactPostingOkRow : OpenClaim := { program := "ythelclibokkdnaa", sum := "85c53404469502ebaa578391e6b0c4bc3e4300cbb77e751cf3b2ad4fa057e4f8", func := "loop.example/g00980/laws.FnExactPostingOk", spec := "fnExactPostingOk", apart := false }
def FnExactPostingOkSaid : Prop := fnExactPostingOkRow.holds Try.pinned (OpenSpec.ofChange fnExactPostingOkSpec)

/-- ITS FALSE NEIGHBOUR: 'it returns false'. Refute it at one input. -/
def fnExactPostingOkWrong : ChangeSpec := { name := "fnExactPostingOk", fn := fun _ => fun
  | [d] => { results := [.lit (.bool false)], args := [d] }
  | _ => none }
def FnExactPostingOkWrongFalsely : Prop := fnExactPostingOkRow.holds Try.pinned (OpenSpec.ofChange fnExactPostingOkWrong)

/-- 'laws.FnExactReversalOf': WHATEVER THE INPUT: true; the input reads as it did. -/
def fnExactReversalOfSpec : ChangeSpec := { name := "fnExactReversalOf", fn := fun _ => fun
  | [d1, d2] => { results := [.lit (.bool true)], args := [d1, d2] }
  | _ => none }
def fnExactReversalOfRow : OpenClaim := { program := "ythelclibokkdnaa", sum := "85c53404469502ebaa578391e6b0c4bc3e4300cbb77e751cf3b2ad4fa057e4f8", func := "loop.example/g00980/laws.FnExactReversalOf", spec := "fnExactReversalOf", apart := false }
def FnExactReversalOfSaid : Prop := fnExactReversalOfRow.holds Try.pinned (OpenSpec.ofChange fnExactReversalOfSpec)

/-- ITS FALSE NEIGHBOUR: 'it returns false'. Refute it at one input. -/
def fnExactReversalOfWrong : ChangeSpec := { name := "fnExactReversalOf", fn := fun _ => fun
  | [d1, d2] => { results := [.lit (.bool false)], args := [d1, d2] }
  | _ => none }
def FnExactReversalOfWrongFalsely : Prop := fnExactReversalOfRow.holds Try.pinned (OpenSpec.ofChange fnExactReversalOfWrong)

/-- 'laws.FnExactLedgerOk': WHATEVER THE INPUT: true; the input reads as it did. -/
def fnExactLedgerOkSpec : ChangeSpec := { name := "fnExactLedgerOk", fn := fun _ => fun
  | [d] => { results := [.lit (.bool true)], args := [d] }
  | _ => none }
def fnExactLedgerOkRow : OpenClaim := { program := "ythelclibokkdnaa", sum := "85c53404469502ebaa578391e6b0c4bc3e4300cbb77e751cf3b2ad4fa057e4f8", func := "loop.example/g00980/laws.FnExactLedgerOk", spec := "fnExactLedgerOk", unfollowed := true, recurses := true, apart := false }
def FnExactLedgerOkSaid : Prop := fnExactLedgerOkRow.holds Try.pinned (OpenSpec.ofChange fnExactLedgerOkSpec)

/-- ITS FALSE NEIGHBOUR: 'it returns false'. Refute it at one input. -/
def fnExactLedgerOkWrong : ChangeSpec := { name := "fnExactLedgerOk", fn := fun _ => fun
  | [d] => { results := [.lit (.bool false)], args := [d] }
  | _ => none }
def FnExactLedgerOkWrongFalsely : Prop := fnExactLedgerOkRow.holds Try.pinned (OpenSpec.ofChange fnExactLedgerOkWrong)

/-- 'laws.FnExactBooksOk': WHATEVER THE INPUT: true; the input reads as it did. -/
def fnExactBooksOkSpec : ChangeSpec := { name := "fnExactBooksOk", fn := fun _ => fun
  | [d] => { results := [.lit (.bool true)], args := [d] }
  | _ => none }
def fnExactBooksOkRow : OpenClaim := { program := "ythelclibokkdnaa", sum := "85c53404469502ebaa578391e6b0c4bc3e4300cbb77e751cf3b2ad4fa057e4f8", func := "loop.example/g00980/laws.FnExactBooksOk", spec := "fnExactBooksOk", unfollowed := true, recurses := true, apart := false }
def FnExactBooksOkSaid : Prop := fnExactBooksOkRow.holds Try.pinned (OpenSpec.ofChange fnExactBooksOkSpec)

/-- ITS FALSE NEIGHBOUR: 'it returns false'. Refute it at one input. -/
def fnExactBooksOkWrong : ChangeSpec := { name := "fnExactBooksOk", fn := fun _ => fun
  | [d] => { results := [.lit (.bool false)], args := [d] }
  | _ => none }
def FnExactBooksOkWrongFalsely : Prop := fnExactBooksOkRow.holds Try.pinned (OpenSpec.ofChange fnExactBooksOkWrong)

/-- 'laws.FnExactAccountBalance': WHATEVER THE INPUT: true; the input reads as it did. -/
def fnExactAccountBalanceSpec : ChangeSpec := { name := "fnExactAccountBalance", fn := fun _ => fun
  | [d1, d2, d3] => { results := [.lit (.bool true)], args := [d1, d2, d3] }
  | _ => none }
def fnExactAccountBalanceRow : OpenClaim := { program := "ythelclibokkdnaa", sum := "85c53404469502ebaa578391e6b0c4bc3e4300cbb77e751cf3b2ad4fa057e4f8", func := "loop.example/g00980/laws.FnExactAccountBalance", spec := "fnExactAccountBalance", unfollowed := true, recurses := true, apart := false }
def FnExactAccountBalanceSaid : Prop := fnExactAccountBalanceRow.holds Try.pinned (OpenSpec.ofChange fnExactAccountBalanceSpec)

/-- ITS FALSE NEIGHBOUR: 'it returns false'. Refute it at one input. -/
def fnExactAccountBalanceWrong : ChangeSpec := { name := "fnExactAccountBalance", fn := fun _ => fun
  | [d1, d2, d3] => { results := [.lit (.bool false)], args := [d1, d2, d3] }
  | _ => none }
def FnExactAccountBalanceWrongFalsely : Prop := fnExactAccountBalanceRow.holds Try.pinned (OpenSpec.ofChange fnExactAccountBalanceWrong)

/-- 'laws.FnYears': WHATEVER THE INPUT: true; the input reads as it did. -/
def fnYearsSpec : ChangeSpec := { name := "fnYears", fn := fun _ => fun
  | [d] => { results := [.lit (.bool true)], args := [d] }
  | _ => none }
def fnYearsRow : OpenClaim := { program := "ythelclibokkdnaa", sum := "85c53404469502ebaa578391e6b0c4bc3e4300cbb77e751cf3b2ad4fa057e4f8", func := "loop.example/g00980/laws.FnYears", spec := "fnYears", unfollowed := true, recurses := true, apart := false }
def FnYearsSaid : Prop := fnYearsRow.holds Try.pinned (OpenSpec.ofChange fnYearsSpec)

/-- ITS FALSE NEIGHBOUR: 'it returns false'. Refute it at one input. -/
def fnYearsWrong : ChangeSpec := { name := "fnYears", fn := fun _ => fun
  | [d] => { results := [.lit (.bool false)], args := [d] }
  | _ => none }
def FnYearsWrongFalsely : Prop := fnYearsRow.holds Try.pinned (OpenSpec.ofChange fnYearsWrong)

/-- 'laws.FnBalanced': WHATEVER THE INPUT: true; the input reads as it did. -/
def fnBalancedSpec : ChangeSpec := { name := "fnBalanced", fn := fun _ => fun
  | [d] => { results := [.lit (.bool true)], args := [d] }
  | _ => none }
def fnBalancedRow : OpenClaim := { program := "ythelclibokkdnaa", sum := "85c53404469502ebaa578391e6b0c4bc3e4300cbb77e751cf3b2ad4fa057e4f8", func := "loop.example/g00980/laws.FnBalanced", spec := "fnBalanced", unfollowed := true, recurses := true, apart := false }
def FnBalancedSaid : Prop := fnBalancedRow.holds Try.pinned (OpenSpec.ofChange fnBalancedSpec)

/-- ITS FALSE NEIGHBOUR: 'it returns false'. Refute it at one input. -/
def fnBalancedWrong : ChangeSpec := { name := "fnBalanced", fn := fun _ => fun
  | [d] => { results := [.lit (.bool false)], args := [d] }
  | _ => none }
def FnBalancedWrongFalsely : Prop := fnBalancedRow.holds Try.pinned (OpenSpec.ofChange fnBalancedWrong)

/-- 'laws.FnExactPost': WHATEVER THE INPUT: true; the input reads as it did. -/
def fnExactPostSpec : ChangeSpec := { name := "fnExactPost", fn := fun _ => fun
  | [d1, d2] => { results := [.lit (.bool true)], args := [d1, d2] }
  | _ => none }
def fnExactPostRow : OpenClaim := { program := "ythelclibokkdnaa", sum := "85c53404469502ebaa578391e6b0c4bc3e4300cbb77e751cf3b2ad4fa057e4f8", func := "loop.example/g00980/laws.FnExactPost", spec := "fnExactPost", unfollowed := true, recurses := true, apart := false }
def FnExactPostSaid : Prop := fnExactPostRow.holds Try.pinned (OpenSpec.ofChange fnExactPostSpec)

/-- ITS FALSE NEIGHBOUR: 'it returns false'. Refute it at one input. -/
def fnExactPostWrong : ChangeSpec := { name := "fnExactPost", fn := fun _ => fun
  | [d1, d2] => { results := [.lit (.bool false)], args := [d1, d2] }
  | _ => none }
def FnExactPostWrongFalsely : Prop := fnExactPostRow.holds Try.pinned (OpenSpec.ofChange fnExactPostWrong)

/-- 'laws.FnPostedAnyOrder': WHATEVER THE INPUT: true; the input reads as it did. -/
def fnPostedAnyOrderSpec : ChangeSpec := { name := "fnPostedAnyOrder", fn := fun _ => fun
  | [d] => { results := [.lit (.bool true)], args := [d] }
  | _ => none }
def fnPostedAnyOrderRow : OpenClaim := { program := "ythelclibokkdnaa", sum := "85c53404469502ebaa578391e6b0c4bc3e4300cbb77e751cf3b2ad4fa057e4f8", func := "loop.example/g00980/laws.FnPostedAnyOrder", spec := "fnPostedAnyOrder", unfollowed := true, recurses := true, apart := false }
def FnPostedAnyOrderSaid : Prop := fnPostedAnyOrderRow.holds Try.pinned (OpenSpec.ofChange fnPostedAnyOrderSpec)

/-- ITS FALSE NEIGHBOUR: 'it returns false'. Refute it at one input. -/
def fnPostedAnyOrderWrong : ChangeSpec := { name := "fnPostedAnyOrder", fn := fun _ => fun
  | [d] => { results := [.lit (.bool false)], args := [d] }
  | _ => none }
def FnPostedAnyOrderWrongFalsely : Prop := fnPostedAnyOrderRow.holds Try.pinned (OpenSpec.ofChange fnPostedAnyOrderWrong)

/-- 'laws.FnClosed': WHATEVER THE INPUT: true; the input reads as it did. -/
def fnClosedSpec : ChangeSpec := { name := "fnClosed", fn := fun _ => fun
  | [d] => { results := [.lit (.bool true)], args := [d] }
  | _ => none }
def fnClosedRow : OpenClaim := { program := "ythelclibokkdnaa", sum := "85c53404469502ebaa578391e6b0c4bc3e4300cbb77e751cf3b2ad4fa057e4f8", func := "loop.example/g00980/laws.FnClosed", spec := "fnClosed", unfollowed := true, recurses := true, apart := false }
def FnClosedSaid : Prop := fnClosedRow.holds Try.pinned (OpenSpec.ofChange fnClosedSpec)

/-- ITS FALSE NEIGHBOUR: 'it returns false'. Refute it at one input. -/
def fnClosedWrong : ChangeSpec := { name := "fnClosed", fn := fun _ => fun
  | [d] => { results := [.lit (.bool false)], args := [d] }
  | _ => none }
def FnClosedWrongFalsely : Prop := fnClosedRow.holds Try.pinned (OpenSpec.ofChange fnClosedWrong)

/-- 'laws.FnExactYearResult': WHATEVER THE INPUT: true; the input reads as it did. -/
def fnExactYearResultSpec : ChangeSpec := { name := "fnExactYearResult", fn := fun _ => fun
  | [d1, d2, d3] => { results := [.lit (.bool true)], args := [d1, d2, d3] }
  | _ => none }
def fnExactYearResultRow : OpenClaim := { program := "ythelclibokkdnaa", sum := "85c53404469502ebaa578391e6b0c4bc3e4300cbb77e751cf3b2ad4fa057e4f8", func := "loop.example/g00980/laws.FnExactYearResult", spec := "fnExactYearResult", unfollowed := true, recurses := true, apart := false }
def FnExactYearResultSaid : Prop := fnExactYearResultRow.holds Try.pinned (OpenSpec.ofChange fnExactYearResultSpec)

/-- ITS FALSE NEIGHBOUR: 'it returns false'. Refute it at one input. -/
def fnExactYearResultWrong : ChangeSpec := { name := "fnExactYearResult", fn := fun _ => fun
  | [d1, d2, d3] => { results := [.lit (.bool false)], args := [d1, d2, d3] }
  | _ => none }
def FnExactYearResultWrongFalsely : Prop := fnExactYearResultRow.holds Try.pinned (OpenSpec.ofChange fnExactYearResultWrong)

/-- 'laws.FnExactTrial': WHATEVER THE INPUT: true; the input reads as it did. -/
def fnExactTrialSpec : ChangeSpec := { name := "fnExactTrial", fn := fun _ => fun
  | [d1, d2] => { results := [.lit (.bool true)], args := [d1, d2] }
  | _ => none }
def fnExactTrialRow : OpenClaim := { program := "ythelclibokkdnaa", sum := "85c53404469502ebaa578391e6b0c4bc3e4300cbb77e751cf3b2ad4fa057e4f8", func := "loop.example/g00980/laws.FnExactTrial", spec := "fnExactTrial", unfollowed := true, recurses := true, apart := false }
def FnExactTrialSaid : Prop := fnExactTrialRow.holds Try.pinned (OpenSpec.ofChange fnExactTrialSpec)

/-- ITS FALSE NEIGHBOUR: 'it returns false'. Refute it at one input. -/
def fnExactTrialWrong : ChangeSpec := { name := "fnExactTrial", fn := fun _ => fun
  | [d1, d2] => { results := [.lit (.bool false)], args := [d1, d2] }
  | _ => none }
def FnExactTrialWrongFalsely : Prop := fnExactTrialRow.holds Try.pinned (OpenSpec.ofChange fnExactTrialWrong)

/-- 'laws.FnExactClosedPart': WHATEVER THE INPUT: true; the input reads as it did. -/
def fnExactClosedPartSpec : ChangeSpec := { name := "fnExactClosedPart", fn := fun _ => fun
  | [d] => { results := [.lit (.bool true)], args := [d] }
  | _ => none }
def fnExactClosedPartRow : OpenClaim := { program := "ythelclibokkdnaa", sum := "85c53404469502ebaa578391e6b0c4bc3e4300cbb77e751cf3b2ad4fa057e4f8", func := "loop.example/g00980/laws.FnExactClosedPart", spec := "fnExactClosedPart", unfollowed := true, recurses := true, apart := false }
def FnExactClosedPartSaid : Prop := fnExactClosedPartRow.holds Try.pinned (OpenSpec.ofChange fnExactClosedPartSpec)

/-- ITS FALSE NEIGHBOUR: 'it returns false'. Refute it at one input. -/
def fnExactClosedPartWrong : ChangeSpec := { name := "fnExactClosedPart", fn := fun _ => fun
  | [d] => { results := [.lit (.bool false)], args := [d] }
  | _ => none }
def FnExactClosedPartWrongFalsely : Prop := fnExactClosedPartRow.holds Try.pinned (OpenSpec.ofChange fnExactClosedPartWrong)

/- THE SECOND FORM. 'bulk': how many values and letters a reading holds, each counted each time it is reached (what is shared counts as often as it is met; a slice's spare places count too). A statement '..UptoSaid' is the law's where the arguments, and the package variables that the reading takes, are together of bulk at most 1048576: NARROWER than '..Said'. Prove '..Said' where nothing that the law and all that it calls make is longer than what came in: it says more and counts as full. Else prove '..UptoSaid'. A law counts once. -/
mutual
def uptoBulk {H : Type} : DataW H → Nat
  | .lit (.string bytes) => bytes.length + 1
  | .lit _ => 1
  | .nil => 1
  | .ptr d => uptoBulk d + 1
  | .slice elems spare => uptoBulkAll elems + uptoBulkAll spare + 1
  | .agg parts => uptoBulkAll parts + 1
  | .iface _ d => uptoBulk d + 1
  | .map entries => uptoBulkEntries entries + 1
  | .held _ => 1
def uptoBulkAll {H : Type} : List (DataW H) → Nat
  | [] => 0
  | d :: r => uptoBulk d + uptoBulkAll r
def uptoBulkEntries {H : Type} : List (Lit × DataW H) → Nat
  | [] => 0
  | x :: r => uptoBulkEntry x + uptoBulkEntries r
def uptoBulkEntry {H : Type} : Lit × DataW H → Nat
  | (.string bytes, d) => bytes.length + uptoBulk d + 1
  | (_, d) => uptoBulk d + 1
 end
def uptoSmall : (H : Type) → List (DataW H) → Bool := fun _ ds => decide (uptoBulkAll ds ≤ 1048576)
def OpenSpec.upto (s : _root_.Go.ChangeSpec) : _root_.Go.OpenSpec := { _root_.Go.OpenSpec.ofChange s with cond := some uptoSmall }

/-- 'laws.FnExactPostingOk', WHERE WHAT IT READS IS OF BULK AT MOST 1048576: true; the input reads as it did. -/
def fnExactPostingOkUptoRow : OpenClaim := { program := "ythelclibokkdnaa", sum := "85c53404469502ebaa578391e6b0c4bc3e4300cbb77e751cf3b2ad4fa057e4f8", func := "loop.example/g00980/laws.FnExactPostingOk", spec := "fnExactPostingOk", apart := false, narrowed := true }
def FnExactPostingOkUptoSaid : Prop := fnExactPostingOkUptoRow.holds Try.pinned (OpenSpec.upto fnExactPostingOkSpec)

/-- 'laws.FnExactReversalOf', WHERE WHAT IT READS IS OF BULK AT MOST 1048576: true; the input reads as it did. -/
def fnExactReversalOfUptoRow : OpenClaim := { program := "ythelclibokkdnaa", sum := "85c53404469502ebaa578391e6b0c4bc3e4300cbb77e751cf3b2ad4fa057e4f8", func := "loop.example/g00980/laws.FnExactReversalOf", spec := "fnExactReversalOf", apart := false, narrowed := true }
def FnExactReversalOfUptoSaid : Prop := fnExactReversalOfUptoRow.holds Try.pinned (OpenSpec.upto fnExactReversalOfSpec)

/-- 'laws.FnExactLedgerOk', WHERE WHAT IT READS IS OF BULK AT MOST 1048576: true; the input reads as it did. -/
def fnExactLedgerOkUptoRow : OpenClaim := { program := "ythelclibokkdnaa", sum := "85c53404469502ebaa578391e6b0c4bc3e4300cbb77e751cf3b2ad4fa057e4f8", func := "loop.example/g00980/laws.FnExactLedgerOk", spec := "fnExactLedgerOk", unfollowed := true, recurses := true, apart := false, narrowed := true }
def FnExactLedgerOkUptoSaid : Prop := fnExactLedgerOkUptoRow.holds Try.pinned (OpenSpec.upto fnExactLedgerOkSpec)

/-- 'laws.FnExactBooksOk', WHERE WHAT IT READS IS OF BULK AT MOST 1048576: true; the input reads as it did. -/
def fnExactBooksOkUptoRow : OpenClaim := { program := "ythelclibokkdnaa", sum := "85c53404469502ebaa578391e6b0c4bc3e4300cbb77e751cf3b2ad4fa057e4f8", func := "loop.example/g00980/laws.FnExactBooksOk", spec := "fnExactBooksOk", unfollowed := true, recurses := true, apart := false, narrowed := true }
def FnExactBooksOkUptoSaid : Prop := fnExactBooksOkUptoRow.holds Try.pinned (OpenSpec.upto fnExactBooksOkSpec)

/-- 'laws.FnExactAccountBalance', WHERE WHAT IT READS IS OF BULK AT MOST 1048576: true; the input reads as it did. -/
def fnExactAccountBalanceUptoRow : OpenClaim := { program := "ythelclibokkdnaa", sum := "85c53404469502ebaa578391e6b0c4bc3e4300cbb77e751cf3b2ad4fa057e4f8", func := "loop.example/g00980/laws.FnExactAccountBalance", spec := "fnExactAccountBalance", unfollowed := true, recurses := true, apart := false, narrowed := true }
def FnExactAccountBalanceUptoSaid : Prop := fnExactAccountBalanceUptoRow.holds Try.pinned (OpenSpec.upto fnExactAccountBalanceSpec)

/-- 'laws.FnYears', WHERE WHAT IT READS IS OF BULK AT MOST 1048576: true; the input reads as it did. -/
def fnYearsUptoRow : OpenClaim := { program := "ythelclibokkdnaa", sum := "85c53404469502ebaa578391e6b0c4bc3e4300cbb77e751cf3b2ad4fa057e4f8", func := "loop.example/g00980/laws.FnYears", spec := "fnYears", unfollowed := true, recurses := true, apart := false, narrowed := true }
def FnYearsUptoSaid : Prop := fnYearsUptoRow.holds Try.pinned (OpenSpec.upto fnYearsSpec)

/-- 'laws.FnBalanced', WHERE WHAT IT READS IS OF BULK AT MOST 1048576: true; the input reads as it did. -/
def fnBalancedUptoRow : OpenClaim := { program := "ythelclibokkdnaa", sum := "85c53404469502ebaa578391e6b0c4bc3e4300cbb77e751cf3b2ad4fa057e4f8", func := "loop.example/g00980/laws.FnBalanced", spec := "fnBalanced", unfollowed := true, recurses := true, apart := false, narrowed := true }
def FnBalancedUptoSaid : Prop := fnBalancedUptoRow.holds Try.pinned (OpenSpec.upto fnBalancedSpec)

/-- 'laws.FnExactPost', WHERE WHAT IT READS IS OF BULK AT MOST 1048576: true; the input reads as it did. -/
def fnExactPostUptoRow : OpenClaim := { program := "ythelclibokkdnaa", sum := "85c53404469502ebaa578391e6b0c4bc3e4300cbb77e751cf3b2ad4fa057e4f8", func := "loop.example/g00980/laws.FnExactPost", spec := "fnExactPost", unfollowed := true, recurses := true, apart := false, narrowed := true }
def FnExactPostUptoSaid : Prop := fnExactPostUptoRow.holds Try.pinned (OpenSpec.upto fnExactPostSpec)

/-- 'laws.FnPostedAnyOrder', WHERE WHAT IT READS IS OF BULK AT MOST 1048576: true; the input reads as it did. -/
def fnPostedAnyOrderUptoRow : OpenClaim := { program := "ythelclibokkdnaa", sum := "85c53404469502ebaa578391e6b0c4bc3e4300cbb77e751cf3b2ad4fa057e4f8", func := "loop.example/g00980/laws.FnPostedAnyOrder", spec := "fnPostedAnyOrder", unfollowed := true, recurses := true, apart := false, narrowed := true }
def FnPostedAnyOrderUptoSaid : Prop := fnPostedAnyOrderUptoRow.holds Try.pinned (OpenSpec.upto fnPostedAnyOrderSpec)

/-- 'laws.FnClosed', WHERE WHAT IT READS IS OF BULK AT MOST 1048576: true; the input reads as it did. -/
def fnClosedUptoRow : OpenClaim := { program := "ythelclibokkdnaa", sum := "85c53404469502ebaa578391e6b0c4bc3e4300cbb77e751cf3b2ad4fa057e4f8", func := "loop.example/g00980/laws.FnClosed", spec := "fnClosed", unfollowed := true, recurses := true, apart := false, narrowed := true }
def FnClosedUptoSaid : Prop := fnClosedUptoRow.holds Try.pinned (OpenSpec.upto fnClosedSpec)

/-- 'laws.FnExactYearResult', WHERE WHAT IT READS IS OF BULK AT MOST 1048576: true; the input reads as it did. -/
def fnExactYearResultUptoRow : OpenClaim := { program := "ythelclibokkdnaa", sum := "85c53404469502ebaa578391e6b0c4bc3e4300cbb77e751cf3b2ad4fa057e4f8", func := "loop.example/g00980/laws.FnExactYearResult", spec := "fnExactYearResult", unfollowed := true, recurses := true, apart := false, narrowed := true }
def FnExactYearResultUptoSaid : Prop := fnExactYearResultUptoRow.holds Try.pinned (OpenSpec.upto fnExactYearResultSpec)

/-- 'laws.FnExactTrial', WHERE WHAT IT READS IS OF BULK AT MOST 1048576: true; the input reads as it did. -/
def fnExactTrialUptoRow : OpenClaim := { program := "ythelclibokkdnaa", sum := "85c53404469502ebaa578391e6b0c4bc3e4300cbb77e751cf3b2ad4fa057e4f8", func := "loop.example/g00980/laws.FnExactTrial", spec := "fnExactTrial", unfollowed := true, recurses := true, apart := false, narrowed := true }
def FnExactTrialUptoSaid : Prop := fnExactTrialUptoRow.holds Try.pinned (OpenSpec.upto fnExactTrialSpec)

/-- 'laws.FnExactClosedPart', WHERE WHAT IT READS IS OF BULK AT MOST 1048576: true; the input reads as it did. -/
def fnExactClosedPartUptoRow : OpenClaim := { program := "ythelclibokkdnaa", sum := "85c53404469502ebaa578391e6b0c4bc3e4300cbb77e751cf3b2ad4fa057e4f8", func := "loop.example/g00980/laws.FnExactClosedPart", spec := "fnExactClosedPart", unfollowed := true, recurses := true, apart := false, narrowed := true }
def FnExactClosedPartUptoSaid : Prop := fnExactClosedPartUptoRow.holds Try.pinned (OpenSpec.upto fnExactClosedPartSpec)

end Rows
end Go.Proofs.Ythelclibokkdnaa
