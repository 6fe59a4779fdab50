/-
  The contracts of both ProofsOk.
-/
import Derived.Test.YtegcfjnjgklchaaBase
namespace Go.Proofs.Ytegcfjnjgklchaa
open Go.RowKit

set_option maxHeartbeats 400000 in
theorem sProofsOk_any (A : Option Addr) (c : Nat) (zs : List Int) (w : World) (hz : zs.length ≤ 9223372036854775807) (hA : IntsAt w A zs) :
    Calls Try.prog 15 #[.slice A zs.length c] w fun e w' => e = .returned (.bool (proofsOk zs)) ∧ Drew w w' := by
  go_enter Try.func15, Try.ntmps15
  go_wp2
  go_loopw [3] (fun i wr => ∃ k : Nat, k ≤ zs.length ∧ i = .int .i64 k ∧ allTo (proofAt zs) k = true ∧ Drew w wr) (fun i _ => zs.length - (intOf i).toNat)
  case atStart => exact ⟨0, Nat.zero_le _, rfl, rfl, Drew.refl _⟩
  case round =>
    obtain ⟨k, hk, rfl, hall, hd⟩ := hrel
    have Hall := Lib.hid hall
    clear hall
    replace hA := hA.drew hd
    by_cases hlt : k < zs.length
    · rcases Nat.eq_zero_or_pos k with h0 | h0
      · obtain ⟨b, off, x, rfl, hcx, HX, _⟩ := hA.at_ hlt
        clear hA
        subst h0
        simp only [Nat.add_zero] at hcx
        have HE := Lib.hid (proofAt_zero HX.out)
        cases hm : inB x 0 3599
        · go_wp2
          go_quiet ((go_at_call 45; exact quiet_left (sMonthOk_any _ _)))
          go_wp2
          go_ret
          exact ⟨ret_bool (proofsOk_false hlt (HE.out.trans hm)), hd.drewN _⟩
        · go_wp2
          go_quiet ((go_at_call 45; exact quiet_left (sMonthOk_any _ _)))
          go_wp2
          go_roundw
          case rel => exact ⟨1, hlt, rfl, by simp [allTo, HE.out, hm], hd.drewN _⟩
          case measure => simp [intOf]; omega
      · obtain ⟨j, rfl⟩ : ∃ j, k = j + 1 := ⟨k - 1, by omega⟩
        obtain ⟨b, off, x, y, rfl, hcx, hcy, HX, HY, _⟩ := hA.at2 hlt
        clear hA
        have HE := Lib.hid (proofAt_succ HX.out HY.out)
        cases hm : inB y 0 3599
        · go_wp2
          go_quiet ((go_at_call 45; exact quiet_left (sMonthOk_any _ _)))
          go_wp2
          go_ret
          exact ⟨ret_bool (proofsOk_false hlt (HE.out.trans (by rw [hm]; rfl))), hd.drewN _⟩
        · go_wp2
          go_quiet ((go_at_call 45; exact quiet_left (sMonthOk_any _ _)))
          go_wp2
          · go_ret
            exact ⟨ret_bool (proofsOk_false hlt (HE.out.trans (by simp; omega))), hd.drewN _⟩
          · go_roundw
            case rel => exact ⟨j + 1 + 1, hlt, by go_num, by rw [allTo, Hall.out, HE.out, hm]; simp; omega, hd.drewN _⟩
            case measure => simp [intOf]; omega
    · go_wp2
      go_ret
      exact ⟨ret_bool (by rw [proofsOk, show zs.length = k by omega, Hall.out]; simp; omega), hd⟩

set_option maxHeartbeats 400000 in
theorem iProofsOk_any (A : Option Addr) (c : Nat) (zs : List Int) (w : World) (hz : zs.length ≤ 9223372036854775807) (hA : IntsAt w A zs) :
    Calls Try.prog 17 #[.slice A zs.length c] w fun e w' => e = .returned (.bool (proofsOk zs)) ∧ w = w' := by
  go_enter Try.func17, Try.ntmps17
  go_wp2
  go_loop [7] (fun i => ∃ k : Nat, k ≤ zs.length ∧ i = .int .i64 k ∧ allTo (proofAt zs) k = true) (fun i => zs.length - (intOf i).toNat)
  case atStart => exact ⟨0, Nat.zero_le _, rfl, rfl⟩
  case round =>
    obtain ⟨k, hk, rfl, hall⟩ := hrel
    have Hall := Lib.hid hall
    clear hall
    by_cases hlt : k < zs.length
    · rcases Nat.eq_zero_or_pos k with h0 | h0
      · obtain ⟨b, off, x, rfl, hcx, HX, _⟩ := hA.at_ hlt
        clear hA
        subst h0
        simp only [Nat.add_zero] at hcx
        have HE := Lib.hid (proofAt_zero HX.out)
        cases hm : inB x 0 3599
        · go_wp2_with (go_at_call 46; refine (iMonthOk_any _ _).mono ?_; rintro e w' ⟨rfl, rfl⟩)
          go_ret
          exact ⟨ret_bool (proofsOk_false hlt (HE.out.trans hm)), rfl⟩
        · go_wp2_with (go_at_call 46; refine (iMonthOk_any _ _).mono ?_; rintro e w' ⟨rfl, rfl⟩)
          go_round
          case rel => exact ⟨1, hlt, rfl, by simp [allTo, HE.out, hm]⟩
          case measure => simp [intOf]; omega
      · obtain ⟨j, rfl⟩ : ∃ j, k = j + 1 := ⟨k - 1, by omega⟩
        obtain ⟨b, off, x, y, rfl, hcx, hcy, HX, HY, _⟩ := hA.at2 hlt
        clear hA
        have HE := Lib.hid (proofAt_succ HX.out HY.out)
        cases hm : inB y 0 3599
        · go_wp2_with (go_at_call 46; refine (iMonthOk_any _ _).mono ?_; rintro e w' ⟨rfl, rfl⟩)
          go_ret
          exact ⟨ret_bool (proofsOk_false hlt (HE.out.trans (by rw [hm]; rfl))), rfl⟩
        · go_wp2_with (go_at_call 46; refine (iMonthOk_any _ _).mono ?_; rintro e w' ⟨rfl, rfl⟩)
          · go_ret
            exact ⟨ret_bool (proofsOk_false hlt (HE.out.trans (by simp; omega))), rfl⟩
          · go_round
            case rel => exact ⟨j + 1 + 1, hlt, by go_num, by rw [allTo, Hall.out, HE.out, hm]; simp; omega⟩
            case measure => simp [intOf]; omega
    · go_wp2
      go_ret
      exact ⟨ret_bool (by rw [proofsOk, show zs.length = k by omega, Hall.out]; simp; omega), rfl⟩
end Go.Proofs.Ytegcfjnjgklchaa
