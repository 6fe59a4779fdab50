/-
  Ledgers marked: their own row alone is written.
-/
import Derived.Test.YthelclibokkdnaaOnly0
import Derived.Test.YthelclibokkdnaaLedgerMark
namespace Go.Proofs.Ythelclibokkdnaa
open Go.RowKit

theorem markLedger_only (A : Option Addr) (n c : Nat) (L : List TPosting) (k0 : Int) (w : World) (base : Nat) (hl : L.length = n) (hz : L.length ≤ 2000000) (h0 : 0 ≤ k0) (h1 : k0 ≤ 1000000000) (hA : OwnPosting w base (.slice A n c) L) :
    Calls Try.prog 43 #[.agg #[.slice A n c], .int .i64 k0] w fun e w' => e = .returned (.int .i64 (k0 + 4 * (n : Int))) ∧ OwnPosting w' base (.slice A n c) (markPosting k0 n) ∧ Only1 (.slice A n c) w w' :=
  (only_of_zone (Q := fun e w' => e = .returned (.int .i64 (k0 + 4 * (n : Int))) ∧ OwnPosting w' base (.slice A n c) (markPosting k0 n)) fun _ _ hz' => (markLedger_any A n c L k0 w base hl hz h0 h1 hA hz').mono fun _ _ ⟨a, b, d⟩ => ⟨⟨a, b⟩, d⟩).mono fun _ _ ⟨⟨a, b⟩, d⟩ => ⟨a, b, d⟩
end Go.Proofs.Ythelclibokkdnaa
