/-
  The contracts of the tests of corrections.
-/
import Derived.Test.YtmpeohmhkhhooaaCorr
namespace Go.Proofs.Ytmpeohmhkhhooaa
open Go.RowKit

set_option maxHeartbeats 1000000 in
theorem sAmounts_any (A : Option Addr) (c : Nat) (L : List TCorrection) (w : World) (hz : L.length ≤ 9223372036854775807) (hA : AtCorrection w A L) :
    Calls Try.prog 38 #[.slice A L.length c] w fun e w' => e = .returned (.bool (amountsOk L)) ∧ Same w w' := by
  go_enter Try.func38, Try.ntmps38
  go_wp2
  go_loopw [3] (fun i wr => ∃ k : Nat, k ≤ L.length ∧ i = .int .i64 k ∧ Hid ((L.take k).all amtOk = true) ∧ Same w wr) (fun i _ => L.length - (intOf i).toNat)
  case atStart => exact ⟨0, Nat.zero_le _, rfl, by simp [Hid], Same.refl _⟩
  case round =>
    obtain ⟨k, hk, rfl, hall, hs⟩ := hrel
    by_cases hlt : k < L.length
    · obtain ⟨b, off, x, rfl, hc, HX, _⟩ := (hA.same hs).at_ hlt
      clear hA
      obtain ⟨f0, f1, f2⟩ := x
      have c0 := hc 0 _ rfl
      have c1 := hc 1 _ rfl
      have c2 := hc 2 _ rfl
      simp only [Nat.add_zero] at c0
      clear hc
      cases m1 : inB f1 0 10000000
      · have HP := Lib.hid (show amountsOk L = false by rw [amountsOk, all_false HX.out (show amtOk (f0, f1, f2) = false by simp [amtOk, m1])]; simp)
        go_wp2_with (go_at_call 48; refine (l01In_any _ _ _ _).mono ?_; rintro e w' ⟨rfl, rfl⟩)
        go_ret
        exact ⟨ret_bool HP.out.symm, hs⟩
      · cases m2 : inB f2 0 10000000
        · have HP := Lib.hid (show amountsOk L = false by rw [amountsOk, all_false HX.out (show amtOk (f0, f1, f2) = false by simp [amtOk, m2])]; simp)
          go_wp2_with (go_at_call 48; refine (l01In_any _ _ _ _).mono ?_; rintro e w' ⟨rfl, rfl⟩)
          go_ret
          exact ⟨ret_bool HP.out.symm, hs⟩
        · have HP := Lib.hid (all_take_succ hall.out HX.out (show amtOk (f0, f1, f2) = true by simp [amtOk, m1, m2]))
          go_wp2_with (go_at_call 48; refine (l01In_any _ _ _ _).mono ?_; rintro e w' ⟨rfl, rfl⟩)
          go_roundw
          case rel => exact ⟨k + 1, hlt, by go_num, HP, hs⟩
          case measure => simp [intOf]; omega
    · have hl := hall.out
      rw [show k = L.length by omega, List.take_length] at hl
      have HP := Lib.hid hl
      clear hl hall
      go_wp2
      all_goals go_ret
      all_goals exact ⟨ret_bool (by rw [amountsOk, HP.out]; simp; omega), hs⟩

set_option maxHeartbeats 1000000 in
theorem iAmounts_any (A : Option Addr) (c : Nat) (L : List TCorrection) (w : World) (hz : L.length ≤ 9223372036854775807) (hA : AtCorrection w A L) :
    Calls Try.prog 40 #[.slice A L.length c] w fun e w' => e = .returned (.bool (amountsOk L)) ∧ Same w w' := by
  go_enter Try.func40, Try.ntmps40
  go_wp2
  go_loopw [7] (fun i wr => ∃ k : Nat, k ≤ L.length ∧ i = .int .i64 k ∧ Hid ((L.take k).all amtOk = true) ∧ Same w wr) (fun i _ => L.length - (intOf i).toNat)
  case atStart => exact ⟨0, Nat.zero_le _, rfl, by simp [Hid], Same.refl _⟩
  case round =>
    obtain ⟨k, hk, rfl, hall, hs⟩ := hrel
    by_cases hlt : k < L.length
    · obtain ⟨b, off, x, rfl, hc, HX, _⟩ := (hA.same hs).at_ hlt
      clear hA
      obtain ⟨f0, f1, f2⟩ := x
      have c0 := hc 0 _ rfl
      have c1 := hc 1 _ rfl
      have c2 := hc 2 _ rfl
      simp only [Nat.add_zero] at c0
      clear hc
      cases m1 : inB f1 0 10000000
      · have HP := Lib.hid (show amountsOk L = false by rw [amountsOk, all_false HX.out (show amtOk (f0, f1, f2) = false by simp [amtOk, m1])]; simp)
        go_wp2_with (go_at_call 50; refine (within_any _ _ _ _).mono ?_; rintro e w' ⟨rfl, rfl⟩)
        go_ret
        exact ⟨ret_bool HP.out.symm, hs.alloc _⟩
      · cases m2 : inB f2 0 10000000
        · have HP := Lib.hid (show amountsOk L = false by rw [amountsOk, all_false HX.out (show amtOk (f0, f1, f2) = false by simp [amtOk, m2])]; simp)
          go_wp2_with (go_at_call 50; refine (within_any _ _ _ _).mono ?_; rintro e w' ⟨rfl, rfl⟩)
          go_ret
          exact ⟨ret_bool HP.out.symm, hs.alloc _⟩
        · have HP := Lib.hid (all_take_succ hall.out HX.out (show amtOk (f0, f1, f2) = true by simp [amtOk, m1, m2]))
          go_wp2_with (go_at_call 50; refine (within_any _ _ _ _).mono ?_; rintro e w' ⟨rfl, rfl⟩)
          go_roundw
          case rel => exact ⟨k + 1, hlt, by go_num, HP, hs.alloc _⟩
          case measure => simp [intOf]; omega
    · have hl := hall.out
      rw [show k = L.length by omega, List.take_length] at hl
      have HP := Lib.hid hl
      clear hl hall
      go_wp2
      all_goals go_ret
      all_goals exact ⟨ret_bool (by rw [amountsOk, HP.out]; simp; omega), hs⟩

set_option maxHeartbeats 1000000 in
theorem sMonths_any (A : Option Addr) (c : Nat) (L : List TCorrection) (a : Int) (w : World) (hz : L.length ≤ 9223372036854775807) (hA : AtCorrection w A L) :
    Calls Try.prog 47 #[.slice A L.length c, .int .i64 a] w fun e w' => e = .returned (.bool (monthsOk L a && amountsOk L)) ∧ Same w w' := by
  go_enter Try.func47, Try.ntmps47
  go_wp2
  go_loopw [5] (fun i wr => ∃ k : Nat, k ≤ L.length ∧ i = .int .i64 k ∧ Hid ((L.take k).all monOk = true) ∧ Same w wr) (fun i _ => L.length - (intOf i).toNat)
  case atStart => exact ⟨0, Nat.zero_le _, rfl, by simp [Hid], Same.refl _⟩
  case round =>
    obtain ⟨k, hk, rfl, hall, hs⟩ := hrel
    by_cases hlt : k < L.length
    · obtain ⟨b, off, x, rfl, hc, HX, _⟩ := (hA.same hs).at_ hlt
      clear hA
      obtain ⟨f0, f1, f2⟩ := x
      have c0 := hc 0 _ rfl
      have c1 := hc 1 _ rfl
      have c2 := hc 2 _ rfl
      simp only [Nat.add_zero] at c0
      clear hc
      cases m1 : inB f0 0 3599
      · have HP := Lib.hid (show monthsOk L a = false by rw [monthsOk, all_false HX.out (show monOk (f0, f1, f2) = false by simp [monOk, m1])]; simp)
        go_wp2_with (go_at_call 55; refine (sMonthOk_any _ _).mono ?_; rintro e w' ⟨rfl, rfl⟩)
        go_ret
        exact ⟨ret_bool (by rw [HP.out]; simp), hs⟩
      · have HP := Lib.hid (all_take_succ hall.out HX.out (show monOk (f0, f1, f2) = true by simp [monOk, m1]))
        go_wp2_with (go_at_call 55; refine (sMonthOk_any _ _).mono ?_; rintro e w' ⟨rfl, rfl⟩)
        go_roundw
        case rel => exact ⟨k + 1, hlt, by go_num, HP, hs⟩
        case measure => simp [intOf]; omega
    · have hl := hall.out
      rw [show k = L.length by omega, List.take_length] at hl
      have HP := Lib.hid hl
      clear hl hall
      cases m2 : amountsOk L
      · go_wp2_with fail
        refine (sAmounts_any A c L _ hz (hA.same hs)).mono ?_
        rintro e w1 ⟨rfl, hs1⟩
        rw [m2]
        go_wp2
        go_ret
        exact ⟨ret_bool (by simp [m2]), hs.trans hs1⟩
      · go_wp2_with fail
        refine (sAmounts_any A c L _ hz (hA.same hs)).mono ?_
        rintro e w1 ⟨rfl, hs1⟩
        rw [m2]
        go_wp2_with fail
        refine (sMonthOk_any _ _).mono ?_
        rintro e w2 ⟨rfl, rfl⟩
        go_wp2_with fail
        go_ret
        exact ⟨ret_bool (by rw [monthsOk, HP.out, m2]; simp), hs.trans hs1⟩

set_option maxHeartbeats 1000000 in
theorem iMonths_any (A : Option Addr) (c : Nat) (L : List TCorrection) (a : Int) (w : World) (hz : L.length ≤ 9223372036854775807) (hA : AtCorrection w A L) :
    Calls Try.prog 49 #[.slice A L.length c, .int .i64 a] w fun e w' => e = .returned (.bool (monthsOk L a)) ∧ Same w w' := by
  go_enter Try.func49, Try.ntmps49
  go_wp2
  go_loopw [9] (fun i wr => ∃ k : Nat, k ≤ L.length ∧ i = .int .i64 k ∧ Hid ((L.take k).all monOk = true) ∧ Same w wr) (fun i _ => L.length - (intOf i).toNat)
  case atStart => exact ⟨0, Nat.zero_le _, rfl, by simp [Hid], Same.refl _⟩
  case round =>
    obtain ⟨k, hk, rfl, hall, hs⟩ := hrel
    by_cases hlt : k < L.length
    · obtain ⟨b, off, x, rfl, hc, HX, _⟩ := (hA.same hs).at_ hlt
      clear hA
      obtain ⟨f0, f1, f2⟩ := x
      have c0 := hc 0 _ rfl
      have c1 := hc 1 _ rfl
      have c2 := hc 2 _ rfl
      simp only [Nat.add_zero] at c0
      clear hc
      cases m1 : inB f0 0 3599
      · have HP := Lib.hid (show monthsOk L a = false by rw [monthsOk, all_false HX.out (show monOk (f0, f1, f2) = false by simp [monOk, m1])]; simp)
        go_wp2_with (go_at_call 56; refine (iMonthOk_any _ _).mono ?_; rintro e w' ⟨rfl, rfl⟩)
        go_ret
        exact ⟨ret_bool (by rw [HP.out]), hs.alloc _⟩
      · have HP := Lib.hid (all_take_succ hall.out HX.out (show monOk (f0, f1, f2) = true by simp [monOk, m1]))
        go_wp2_with (go_at_call 56; refine (iMonthOk_any _ _).mono ?_; rintro e w' ⟨rfl, rfl⟩)
        go_roundw
        case rel => exact ⟨k + 1, hlt, by go_num, HP, hs.alloc _⟩
        case measure => simp [intOf]; omega
    · have hl := hall.out
      rw [show k = L.length by omega, List.take_length] at hl
      have HP := Lib.hid hl
      clear hl hall
      go_wp2_with fail
      refine (iMonthOk_any _ _).mono ?_
      rintro e w2 ⟨rfl, rfl⟩
      go_wp2_with fail
      go_ret
      exact ⟨ret_bool (by rw [monthsOk, HP.out]; simp), hs⟩
end Go.Proofs.Ytmpeohmhkhhooaa
