/-
  The contracts of IsSuspended and l27Late.
-/
import Derived.Test.YtegcfjnjgklchaaProofsOk
namespace Go.Proofs.Ytegcfjnjgklchaa
open Go.RowKit

set_option maxHeartbeats 400000 in
theorem sLate_any (A : Option Addr) (c : Nat) (zs : List Int) (start m limit : Int) (w : World) (hok : Hid (proofsOk zs = true)) (h0 : 0 ≤ start) (h1 : start ≤ 3599) (h2 : 0 ≤ m) (h3 : m ≤ 3599) (hA : IntsAt w A zs) :
    Calls Try.prog 51 #[.slice A zs.length c, .int .i64 start, .int .i64 m, .int .i64 limit] w fun e w' => e = .returned (.bool (lateB zs start m limit)) ∧ w = w' := by
  have hz := proofsOk_len hok.out
  go_enter Try.func51, Try.ntmps51
  go_wp2
  go_loop [9, 10] (fun l i => ∃ k : Nat, k ≤ zs.length ∧ i = .int .i64 k ∧ l = .int .i64 (lastTo zs start m k)) (fun _ i => zs.length - (intOf i).toNat)
  case atStart => exact ⟨0, Nat.zero_le _, rfl, rfl⟩
  case round =>
    obtain ⟨k, hk, rfl, rfl⟩ := hrel
    obtain ⟨hl0, hl1⟩ := lastTo_range (m := m) hok.out h0 h1 k
    by_cases hlt : k < zs.length
    · obtain ⟨b, off, x, rfl, hcx, HX, _⟩ := hA.at_ hlt
      clear hA
      by_cases hxm : x ≤ m
      · go_wp2
        go_round
        case rel => exact ⟨k + 1, hlt, by go_num, by rw [lastTo_yes HX.out hxm]⟩
        case measure => simp [intOf]; omega
      · go_wp2
        go_ret
        have hst := lastTo_stop (start := start) hok.out HX.out (show m < x by omega) (zs.length - k) (by omega)
        rw [show k + (zs.length - k) = zs.length by omega] at hst
        exact ⟨ret_bool (by rw [lateB, hst]), rfl⟩
    · go_wp2
      go_ret
      exact ⟨ret_bool (by rw [lateB, show zs.length = k by omega]), rfl⟩

set_option maxHeartbeats 400000 in
theorem sIsSuspended_any (A : Option Addr) (c : Nat) (zs : List Int) (start m limit : Int) (w : World) (hz : zs.length ≤ 9223372036854775807) (hA : IntsAt w A zs) :
    Calls Try.prog 24 #[.slice A zs.length c, .int .i64 start, .int .i64 m, .int .i64 limit] w fun e w' => e = .returned (.bool (suspB zs start m limit)) ∧ Drew w w' := by
  cases k1 : proofsOk zs
  · have hf := Lib.hid (show false = suspB zs start m limit by simp [suspB, k1])
    go_enter Try.func24, Try.ntmps24
    go_wp2_with (first | (go_at_call 15; refine (sProofsOk_any _ _ zs _ hz hA).mono ?_; rintro e w' ⟨rfl, n, rfl⟩) | (go_at_call 45; refine (sMonthOk_any _ _).mono ?_; rintro e w' ⟨rfl, rfl⟩) | (go_at_call 47; refine (l01In_any _ _ _ _).mono ?_; rintro e w' ⟨rfl, rfl⟩))
    go_ret
    exact ⟨ret_bool hf.out, (Drew.refl w).drewN _⟩
  · cases k2 : inB start 0 3599
    · have hf := Lib.hid (show false = suspB zs start m limit by simp [suspB, k1, k2])
      go_enter Try.func24, Try.ntmps24
      go_wp2_with (first | (go_at_call 15; refine (sProofsOk_any _ _ zs _ hz hA).mono ?_; rintro e w' ⟨rfl, n, rfl⟩) | (go_at_call 45; refine (sMonthOk_any _ _).mono ?_; rintro e w' ⟨rfl, rfl⟩) | (go_at_call 47; refine (l01In_any _ _ _ _).mono ?_; rintro e w' ⟨rfl, rfl⟩))
      go_ret
      exact ⟨ret_bool hf.out, (Drew.refl w).drewN _⟩
    · cases k3 : inB m 0 3599
      · have hf := Lib.hid (show false = suspB zs start m limit by simp [suspB, k1, k2, k3])
        go_enter Try.func24, Try.ntmps24
        go_wp2_with (first | (go_at_call 15; refine (sProofsOk_any _ _ zs _ hz hA).mono ?_; rintro e w' ⟨rfl, n, rfl⟩) | (go_at_call 45; refine (sMonthOk_any _ _).mono ?_; rintro e w' ⟨rfl, rfl⟩) | (go_at_call 47; refine (l01In_any _ _ _ _).mono ?_; rintro e w' ⟨rfl, rfl⟩))
        go_ret
        exact ⟨ret_bool hf.out, (Drew.refl w).drewN _⟩
      · rcases Decidable.em (start ≤ m) with k4 | k4
        · cases k5 : inB limit 1 120
          · have hf := Lib.hid (show false = suspB zs start m limit by simp [suspB, k1, k2, k3, k4, k5])
            go_enter Try.func24, Try.ntmps24
            go_wp2_with (first | (go_at_call 15; refine (sProofsOk_any _ _ zs _ hz hA).mono ?_; rintro e w' ⟨rfl, n, rfl⟩) | (go_at_call 45; refine (sMonthOk_any _ _).mono ?_; rintro e w' ⟨rfl, rfl⟩) | (go_at_call 47; refine (l01In_any _ _ _ _).mono ?_; rintro e w' ⟨rfl, rfl⟩))
            go_ret
            exact ⟨ret_bool hf.out, (Drew.refl w).drewN _⟩
          · have hf := Lib.hid (show lateB zs start m limit = suspB zs start m limit by simp [suspB, k1, k2, k3, k4, k5])
            have hok := Lib.hid k1
            have hi2 := inB_iff.1 k2
            have hi3 := inB_iff.1 k3
            go_enter Try.func24, Try.ntmps24
            go_wp2_with (first | (go_at_call 15; refine (sProofsOk_any _ _ zs _ hz hA).mono ?_; rintro e w' ⟨rfl, n, rfl⟩) | (go_at_call 45; refine (sMonthOk_any _ _).mono ?_; rintro e w' ⟨rfl, rfl⟩) | (go_at_call 47; refine (l01In_any _ _ _ _).mono ?_; rintro e w' ⟨rfl, rfl⟩) | (go_at_call 51; refine (sLate_any _ _ zs _ _ _ _ hok hi2.1 hi2.2 hi3.1 hi3.2 (hA.drew ⟨n, rfl⟩)).mono ?_; rintro e w' ⟨rfl, rfl⟩))
            go_ret
            exact ⟨ret_bool hf.out, (Drew.refl w).drewN _⟩
        · have hf := Lib.hid (show false = suspB zs start m limit by simp [suspB, k1, k2, k3, k4])
          go_enter Try.func24, Try.ntmps24
          go_wp2_with (first | (go_at_call 15; refine (sProofsOk_any _ _ zs _ hz hA).mono ?_; rintro e w' ⟨rfl, n, rfl⟩) | (go_at_call 45; refine (sMonthOk_any _ _).mono ?_; rintro e w' ⟨rfl, rfl⟩) | (go_at_call 47; refine (l01In_any _ _ _ _).mono ?_; rintro e w' ⟨rfl, rfl⟩))
          go_ret
          exact ⟨ret_bool hf.out, (Drew.refl w).drewN _⟩

set_option maxHeartbeats 400000 in
theorem iIsSuspended_any (A : Option Addr) (c : Nat) (zs : List Int) (start m limit : Int) (w : World) (hz : zs.length ≤ 9223372036854775807) (hA : IntsAt w A zs) :
    Calls Try.prog 25 #[.slice A zs.length c, .int .i64 start, .int .i64 m, .int .i64 limit] w fun e w' => e = .returned (.bool (suspB zs start m limit)) ∧ w = w' := by
  cases k1 : proofsOk zs
  · have hf := Lib.hid (show false = suspB zs start m limit by simp [suspB, k1])
    go_enter Try.func25, Try.ntmps25
    go_wp2_with (first | (go_at_call 17; refine (iProofsOk_any _ _ zs _ hz hA).mono ?_; rintro e w' ⟨rfl, rfl⟩) | (go_at_call 46; refine (iMonthOk_any _ _).mono ?_; rintro e w' ⟨rfl, rfl⟩) | (go_at_call 49; refine (within_any _ _ _ _).mono ?_; rintro e w' ⟨rfl, rfl⟩))
    go_ret
    exact ⟨ret_bool hf.out, rfl⟩
  · cases k2 : inB start 0 3599
    · have hf := Lib.hid (show false = suspB zs start m limit by simp [suspB, k1, k2])
      go_enter Try.func25, Try.ntmps25
      go_wp2_with (first | (go_at_call 17; refine (iProofsOk_any _ _ zs _ hz hA).mono ?_; rintro e w' ⟨rfl, rfl⟩) | (go_at_call 46; refine (iMonthOk_any _ _).mono ?_; rintro e w' ⟨rfl, rfl⟩) | (go_at_call 49; refine (within_any _ _ _ _).mono ?_; rintro e w' ⟨rfl, rfl⟩))
      go_ret
      exact ⟨ret_bool hf.out, rfl⟩
    · cases k3 : inB m 0 3599
      · have hf := Lib.hid (show false = suspB zs start m limit by simp [suspB, k1, k2, k3])
        go_enter Try.func25, Try.ntmps25
        go_wp2_with (first | (go_at_call 17; refine (iProofsOk_any _ _ zs _ hz hA).mono ?_; rintro e w' ⟨rfl, rfl⟩) | (go_at_call 46; refine (iMonthOk_any _ _).mono ?_; rintro e w' ⟨rfl, rfl⟩) | (go_at_call 49; refine (within_any _ _ _ _).mono ?_; rintro e w' ⟨rfl, rfl⟩))
        go_ret
        exact ⟨ret_bool hf.out, rfl⟩
      · rcases Decidable.em (start ≤ m) with k4 | k4
        · cases k5 : inB limit 1 120
          · have hf := Lib.hid (show false = suspB zs start m limit by simp [suspB, k1, k2, k3, k4, k5])
            go_enter Try.func25, Try.ntmps25
            go_wp2_with (first | (go_at_call 17; refine (iProofsOk_any _ _ zs _ hz hA).mono ?_; rintro e w' ⟨rfl, rfl⟩) | (go_at_call 46; refine (iMonthOk_any _ _).mono ?_; rintro e w' ⟨rfl, rfl⟩) | (go_at_call 49; refine (within_any _ _ _ _).mono ?_; rintro e w' ⟨rfl, rfl⟩))
            go_ret
            exact ⟨ret_bool hf.out, rfl⟩
          · have hf := Lib.hid (show lateB zs start m limit = suspB zs start m limit by simp [suspB, k1, k2, k3, k4, k5])
            have hok := Lib.hid k1
            have hi2 := inB_iff.1 k2
            have hi3 := inB_iff.1 k3
            go_enter Try.func25, Try.ntmps25
            go_wp2_with (first | (go_at_call 17; refine (iProofsOk_any _ _ zs _ hz hA).mono ?_; rintro e w' ⟨rfl, rfl⟩) | (go_at_call 46; refine (iMonthOk_any _ _).mono ?_; rintro e w' ⟨rfl, rfl⟩) | (go_at_call 49; refine (within_any _ _ _ _).mono ?_; rintro e w' ⟨rfl, rfl⟩))
            go_loop [9, 38] (fun l i => ∃ k : Nat, k ≤ zs.length ∧ i = .int .i64 k ∧ l = .int .i64 (lastTo zs start m k)) (fun _ i => zs.length - (intOf i).toNat)
            case atStart => exact ⟨0, Nat.zero_le _, rfl, rfl⟩
            case round =>
              obtain ⟨k, hk, rfl, rfl⟩ := hrel
              obtain ⟨hl0, hl1⟩ := lastTo_range (m := m) hok.out hi2.1 hi2.2 k
              by_cases hlt : k < zs.length
              · obtain ⟨b, off, x, rfl, hcx, HX, _⟩ := hA.at_ hlt
                clear hA
                by_cases hxm : x ≤ m
                · go_wp2
                  go_round
                  case rel => exact ⟨k + 1, hlt, by go_num, by rw [lastTo_yes HX.out hxm]⟩
                  case measure => simp [intOf]; omega
                · go_wp2
                  go_round
                  case rel => exact ⟨k + 1, hlt, by go_num, by rw [lastTo_no HX.out (by omega)]⟩
                  case measure => simp [intOf]; omega
              · go_wp2
                go_ret
                exact ⟨ret_bool (by rw [← hf.out, lateB, show zs.length = k by omega]), rfl⟩
        · have hf := Lib.hid (show false = suspB zs start m limit by simp [suspB, k1, k2, k3, k4])
          go_enter Try.func25, Try.ntmps25
          go_wp2_with (first | (go_at_call 17; refine (iProofsOk_any _ _ zs _ hz hA).mono ?_; rintro e w' ⟨rfl, rfl⟩) | (go_at_call 46; refine (iMonthOk_any _ _).mono ?_; rintro e w' ⟨rfl, rfl⟩) | (go_at_call 49; refine (within_any _ _ _ _).mono ?_; rintro e w' ⟨rfl, rfl⟩))
          go_ret
          exact ⟨ret_bool hf.out, rfl⟩
end Go.Proofs.Ytegcfjnjgklchaa
