/-
  The contracts of HeldBack.
-/
import Derived.Test.YtegcfjnjgklchaaPaid
namespace Go.Proofs.Ytegcfjnjgklchaa
open Go.RowKit

set_option maxHeartbeats 400000 in
theorem iHeld_any (A : Option Addr) (c : Nat) (zs : List Int) (start to limit : Int) (w : World) (hz : zs.length ≤ 9223372036854775807) (hA : IntsAt w A zs) :
    Calls Try.prog 37 #[.slice A zs.length c, .int .i64 start, .int .i64 to, .int .i64 limit] w fun e w' => e = .returned (.int .i64 (heldBack zs start to limit)) ∧ Same w w' := by
  have hlen := paidL_length (zs := zs) (start := start) (to := to) (limit := limit)
  go_enter Try.func37, Try.ntmps37
  go_wp2_with fail
  refine (iPaid_any A c zs start to limit _ hz hA).mono ?_
  rintro e w1 ⟨B, d, rfl, ho, hs⟩
  have hB := ho.ints
  clear ho
  have hst := fun k (hk : k ≤ (paidL zs start to limit).length) => sumTo_paid (zs := zs) (start := start) (to := to) (limit := limit) hk
  have HST := Lib.hid hst
  clear hst
  have HR := Lib.hid (heldBack_eq zs start to limit)
  go_wp2
  go_loop [10, 22] (fun n i => ∃ k : Nat, k ≤ (paidL zs start to limit).length ∧ i = .int .i64 k ∧ n = .int .i64 ((paidL zs start to limit).length - sumTo (paidL zs start to limit) k)) (fun _ i => (paidL zs start to limit).length - (intOf i).toNat)
  case atStart => exact ⟨0, Nat.zero_le _, rfl, by simp [sumTo]⟩
  case round =>
    obtain ⟨k, hk, rfl, rfl⟩ := hrel
    have hs0 := HST.out k hk
    by_cases hlt : k < (paidL zs start to limit).length
    · obtain ⟨b, off, x, rfl, hcx, HX, _⟩ := hB.at_ hlt
      clear hB
      have hs1 := HST.out (k + 1) hlt
      rw [sumTo_succ HX.out] at hs1
      have HS := Lib.hid (sumTo_succ HX.out)
      go_wp2
      go_round
      case rel => exact ⟨k + 1, hlt, by go_num, by rw [HS.out]; go_num⟩
      case measure => simp [intOf]; omega
    · go_wp2
      go_ret
      exact ⟨ret_int (by rw [HR.out, show (paidL zs start to limit).length = k by omega]), hs⟩

set_option maxHeartbeats 400000 in
theorem sHeld_any (A : Option Addr) (c : Nat) (zs : List Int) (start to limit : Int) (w : World) (hz : zs.length ≤ 9223372036854775807) (hA : IntsAt w A zs) :
    Calls Try.prog 39 #[.slice A zs.length c, .int .i64 start, .int .i64 to, .int .i64 limit] w fun e w' => e = .returned (.int .i64 (heldBack zs start to limit)) ∧ Same w w' := by
  have hlen := paidL_length (zs := zs) (start := start) (to := to) (limit := limit)
  go_enter Try.func39, Try.ntmps39
  go_wp2_with fail
  refine (sPaid_any A c zs start to limit _ hz hA).mono ?_
  rintro e w1 ⟨B, d, rfl, ho, hs⟩
  have hB := ho.ints
  clear ho
  have hst := fun k (hk : k ≤ (paidL zs start to limit).length) => sumTo_paid (zs := zs) (start := start) (to := to) (limit := limit) hk
  have HST := Lib.hid hst
  clear hst
  have HR := Lib.hid (heldBack_eq zs start to limit)
  go_wp2
  go_loop [10, 11] (fun n i => ∃ k : Nat, k ≤ (paidL zs start to limit).length ∧ i = .int .i64 k ∧ n = .int .i64 ((paidL zs start to limit).length - sumTo (paidL zs start to limit) k)) (fun _ i => (paidL zs start to limit).length - (intOf i).toNat)
  case atStart => exact ⟨0, Nat.zero_le _, rfl, by simp [sumTo]⟩
  case round =>
    obtain ⟨k, hk, rfl, rfl⟩ := hrel
    have hs0 := HST.out k hk
    by_cases hlt : k < (paidL zs start to limit).length
    · obtain ⟨b, off, x, rfl, hcx, HX, _⟩ := hB.at_ hlt
      clear hB
      have hs1 := HST.out (k + 1) hlt
      rw [sumTo_succ HX.out] at hs1
      have HS := Lib.hid (sumTo_succ HX.out)
      go_wp2
      go_round
      case rel => exact ⟨k + 1, hlt, by go_num, by rw [HS.out]; go_num⟩
      case measure => simp [intOf]; omega
    · go_wp2
      go_ret
      exact ⟨ret_int (by rw [HR.out, show (paidL zs start to limit).length = k by omega]), hs⟩
end Go.Proofs.Ytegcfjnjgklchaa
