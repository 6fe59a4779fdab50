/-
  The contracts of BracketsOk and of what asks for it.
-/
import Derived.Test.YtegcfjnjgklchaaBrkS
namespace Go.Proofs.Ytegcfjnjgklchaa
open Go.RowKit

set_option maxHeartbeats 1000000 in
theorem sBracketsOk_any (A : Option Addr) (c : Nat) (L : List TBracket) (w : World) (hz : L.length ≤ 9223372036854775807) (hA : AtBracket w A L) :
    Calls Try.prog 20 #[.slice A L.length c] w fun e w' => e = .returned (.bool (bracketsOk L)) ∧ Same w w' := by
  go_enter Try.func20, Try.ntmps20
  go_wp2
  go_loopw [3] (fun i wr => ∃ k : Nat, k ≤ L.length ∧ i = .int .i64 k ∧ allTo (brkAt L) k = true ∧ Same w wr) (fun i _ => L.length - (intOf i).toNat)
  case atStart => exact ⟨0, Nat.zero_le _, rfl, rfl, Same.refl _⟩
  case round =>
    obtain ⟨k, hk, rfl, hall, hs⟩ := hrel
    have Hall := Lib.hid hall
    clear hall
    replace hA := hA.same hs
    by_cases hlt : k < L.length
    · rcases Nat.eq_zero_or_pos k with h0 | h0
      · obtain ⟨b, off, x, rfl, hc, HX, _⟩ := hA.at_ hlt
        clear hA
        subst h0
        obtain ⟨f, r⟩ := x
        have c0 := hc 0 _ rfl
        have c1 := hc 1 _ rfl
        simp only [Nat.add_zero, Nat.zero_mul] at c0 c1
        clear hc
        have HE := Lib.hid (brkAt_zero HX.out)
        cases m1 : inB f 0 1000000000
        · have HF := Lib.hid (show brkAt L 0 = false by rw [HE.out]; simp [m1])
          go_wp2
          go_quiet ((go_at_call 47; exact quiet_left (l01In_any _ _ _ _)))
          go_wp2
          go_ret
          exact ⟨ret_bool (bracketsOk_false hlt HF.out), (hs.alloc _).drewN _⟩
        · cases m2 : inB r 0 1000
          · have HF := Lib.hid (show brkAt L 0 = false by rw [HE.out]; simp [m1, m2])
            go_wp2
            go_quiet ((go_at_call 47; exact quiet_left (l01In_any _ _ _ _)))
            go_wp2
            go_ret
            exact ⟨ret_bool (bracketsOk_false hlt HF.out), (hs.alloc _).drewN _⟩
          · rcases Decidable.em (f = 0) with m3 | m3
            · subst m3
              have HF := Lib.hid (show brkAt L 0 = true by rw [HE.out]; simp [m1, m2])
              go_wp2
              go_quiet ((go_at_call 47; exact quiet_left (l01In_any _ _ _ _)))
              go_wp2
              go_roundw
              case rel => exact ⟨1, hlt, rfl, by simp [allTo, HF.out], (hs.alloc _).drewN _⟩
              case measure => simp [intOf]; omega
            · have mb : (f != 0) = true := by simp [m3]
              have HF := Lib.hid (show brkAt L 0 = false by rw [HE.out]; simp [m1, m2, m3])
              have M3 := Lib.hid m3
              clear m3
              go_wp2
              go_quiet ((go_at_call 47; exact quiet_left (l01In_any _ _ _ _)))
              go_wp2
              go_ret
              exact ⟨ret_bool (bracketsOk_false hlt HF.out), (hs.alloc _).drewN _⟩
      · obtain ⟨j, rfl⟩ : ∃ j, k = j + 1 := ⟨k - 1, by omega⟩
        obtain ⟨b, off, x, y, rfl, hc, hd, HX, HY, _⟩ := hA.at2 hlt
        clear hA
        obtain ⟨pf, pr⟩ := x
        obtain ⟨f, r⟩ := y
        have c0 := hc 0 _ rfl
        have c1 := hc 1 _ rfl
        simp only [Nat.add_zero] at c0
        clear hc
        have d0 := hd 0 _ rfl
        have d1 := hd 1 _ rfl
        simp only [Nat.add_zero] at d0
        clear hd
        have HE := Lib.hid (brkAt_succ HX.out HY.out)
        have hne : (((j : Int) + 1) == 0) = false := beq_eq_false_iff_ne.2 (by omega)
        cases m1 : inB f 0 1000000000
        · have HF := Lib.hid (show brkAt L (j + 1) = false by rw [HE.out]; simp [m1])
          go_wp2
          go_quiet ((go_at_call 47; exact quiet_left (l01In_any _ _ _ _)))
          go_wp2
          go_ret
          exact ⟨ret_bool (bracketsOk_false hlt HF.out), (hs.alloc _).drewN _⟩
        · cases m2 : inB r 0 1000
          · have HF := Lib.hid (show brkAt L (j + 1) = false by rw [HE.out]; simp [m1, m2])
            go_wp2
            go_quiet ((go_at_call 47; exact quiet_left (l01In_any _ _ _ _)))
            go_wp2
            go_ret
            exact ⟨ret_bool (bracketsOk_false hlt HF.out), (hs.alloc _).drewN _⟩
          · rcases Decidable.em (pf < f) with m3 | m3
            · have HF := Lib.hid (show brkAt L (j + 1) = true by rw [HE.out]; simp [m1, m2, m3])
              go_wp2
              go_quiet ((go_at_call 47; exact quiet_left (l01In_any _ _ _ _)))
              go_wp2
              go_roundw
              case rel => exact ⟨j + 1 + 1, hlt, by go_num, by rw [allTo, Hall.out, HF.out]; rfl, (hs.alloc _).drewN _⟩
              case measure => simp [intOf]; omega
            · have HF := Lib.hid (show brkAt L (j + 1) = false by rw [HE.out]; simp [m1, m2, m3])
              go_wp2
              go_quiet ((go_at_call 47; exact quiet_left (l01In_any _ _ _ _)))
              go_wp2
              go_ret
              exact ⟨ret_bool (bracketsOk_false hlt HF.out), (hs.alloc _).drewN _⟩
    · go_wp2_with (go_at_call 47; refine (l01In_any _ _ _ _).mono ?_; rintro e w' ⟨rfl, rfl⟩)
      go_ret
      exact ⟨ret_bool (by rw [bracketsOk, show L.length = k by omega, Hall.out]; simp), hs⟩

set_option maxHeartbeats 1000000 in
theorem iBracketsOk_any (A : Option Addr) (c : Nat) (L : List TBracket) (w : World) (hz : L.length ≤ 9223372036854775807) (hA : AtBracket w A L) :
    Calls Try.prog 22 #[.slice A L.length c] w fun e w' => e = .returned (.bool (bracketsOk L)) ∧ Same w w' := by
  go_enter Try.func22, Try.ntmps22
  go_wp2
  go_loopw [7] (fun i wr => ∃ k : Nat, k ≤ L.length ∧ i = .int .i64 k ∧ allTo (brkAt L) k = true ∧ Same w wr) (fun i _ => L.length - (intOf i).toNat)
  case atStart => exact ⟨0, Nat.zero_le _, rfl, rfl, Same.refl _⟩
  case round =>
    obtain ⟨k, hk, rfl, hall, hs⟩ := hrel
    have Hall := Lib.hid hall
    clear hall
    replace hA := hA.same hs
    by_cases hlt : k < L.length
    · rcases Nat.eq_zero_or_pos k with h0 | h0
      · obtain ⟨b, off, x, rfl, hc, HX, _⟩ := hA.at_ hlt
        clear hA
        subst h0
        obtain ⟨f, r⟩ := x
        have c0 := hc 0 _ rfl
        have c1 := hc 1 _ rfl
        simp only [Nat.add_zero, Nat.zero_mul] at c0 c1
        clear hc
        have HE := Lib.hid (brkAt_zero HX.out)
        cases m1 : inB f 0 1000000000
        · have HF := Lib.hid (show brkAt L 0 = false by rw [HE.out]; simp [m1])
          go_wp2
          go_quiet ((go_at_call 49; exact quiet_left (within_any _ _ _ _)))
          go_wp2
          go_ret
          exact ⟨ret_bool (bracketsOk_false hlt HF.out), (hs.alloc _).drewN _⟩
        · cases m2 : inB r 0 1000
          · have HF := Lib.hid (show brkAt L 0 = false by rw [HE.out]; simp [m1, m2])
            go_wp2
            go_quiet ((go_at_call 49; exact quiet_left (within_any _ _ _ _)))
            go_wp2
            go_ret
            exact ⟨ret_bool (bracketsOk_false hlt HF.out), (hs.alloc _).drewN _⟩
          · rcases Decidable.em (f = 0) with m3 | m3
            · subst m3
              have HF := Lib.hid (show brkAt L 0 = true by rw [HE.out]; simp [m1, m2])
              go_wp2
              go_quiet ((go_at_call 49; exact quiet_left (within_any _ _ _ _)))
              go_wp2
              go_roundw
              case rel => exact ⟨1, hlt, rfl, by simp [allTo, HF.out], (hs.alloc _).drewN _⟩
              case measure => simp [intOf]; omega
            · have mb : (f != 0) = true := by simp [m3]
              have HF := Lib.hid (show brkAt L 0 = false by rw [HE.out]; simp [m1, m2, m3])
              have M3 := Lib.hid m3
              clear m3
              go_wp2
              go_quiet ((go_at_call 49; exact quiet_left (within_any _ _ _ _)))
              go_wp2
              go_ret
              exact ⟨ret_bool (bracketsOk_false hlt HF.out), (hs.alloc _).drewN _⟩
      · obtain ⟨j, rfl⟩ : ∃ j, k = j + 1 := ⟨k - 1, by omega⟩
        obtain ⟨b, off, x, y, rfl, hc, hd, HX, HY, _⟩ := hA.at2 hlt
        clear hA
        obtain ⟨pf, pr⟩ := x
        obtain ⟨f, r⟩ := y
        have c0 := hc 0 _ rfl
        have c1 := hc 1 _ rfl
        simp only [Nat.add_zero] at c0
        clear hc
        have d0 := hd 0 _ rfl
        have d1 := hd 1 _ rfl
        simp only [Nat.add_zero] at d0
        clear hd
        have HE := Lib.hid (brkAt_succ HX.out HY.out)
        have hne : (((j : Int) + 1) == 0) = false := beq_eq_false_iff_ne.2 (by omega)
        cases m1 : inB f 0 1000000000
        · have HF := Lib.hid (show brkAt L (j + 1) = false by rw [HE.out]; simp [m1])
          go_wp2
          go_quiet ((go_at_call 49; exact quiet_left (within_any _ _ _ _)))
          go_wp2
          go_ret
          exact ⟨ret_bool (bracketsOk_false hlt HF.out), (hs.alloc _).drewN _⟩
        · cases m2 : inB r 0 1000
          · have HF := Lib.hid (show brkAt L (j + 1) = false by rw [HE.out]; simp [m1, m2])
            go_wp2
            go_quiet ((go_at_call 49; exact quiet_left (within_any _ _ _ _)))
            go_wp2
            go_ret
            exact ⟨ret_bool (bracketsOk_false hlt HF.out), (hs.alloc _).drewN _⟩
          · rcases Decidable.em (pf < f) with m3 | m3
            · have HF := Lib.hid (show brkAt L (j + 1) = true by rw [HE.out]; simp [m1, m2, m3])
              go_wp2
              go_quiet ((go_at_call 49; exact quiet_left (within_any _ _ _ _)))
              go_wp2
              go_roundw
              case rel => exact ⟨j + 1 + 1, hlt, by go_num, by rw [allTo, Hall.out, HF.out]; rfl, (hs.alloc _).drewN _⟩
              case measure => simp [intOf]; omega
            · have HF := Lib.hid (show brkAt L (j + 1) = false by rw [HE.out]; simp [m1, m2, m3])
              go_wp2
              go_quiet ((go_at_call 49; exact quiet_left (within_any _ _ _ _)))
              go_wp2
              go_ret
              exact ⟨ret_bool (bracketsOk_false hlt HF.out), (hs.alloc _).drewN _⟩
    · go_wp2_with (go_at_call 49; refine (within_any _ _ _ _).mono ?_; rintro e w' ⟨rfl, rfl⟩)
      go_ret
      exact ⟨ret_bool (by rw [bracketsOk, show L.length = k by omega, Hall.out]; simp), hs⟩

set_option maxHeartbeats 400000 in
theorem sTaxed_any (A : Option Addr) (c : Nat) (L : List TBracket) (y : Int) (w : World) (hz : L.length ≤ 9223372036854775807) (hA : AtBracket w A L) :
    Calls Try.prog 52 #[.slice A L.length c, .int .i64 y] w fun e w' => e = .returned (.bool (taxed L y)) ∧ Same w w' := by
  cases h : bracketsOk L
  · have HF := Lib.hid (show false = taxed L y by simp [taxed, h])
    go_enter Try.func52, Try.ntmps52
    go_wp2_with fail
    refine (sBracketsOk_any A c L _ hz hA).mono ?_
    rintro e w1 ⟨rfl, hs1⟩
    rw [h]
    go_wp2
    go_ret
    exact ⟨ret_bool HF.out, hs1⟩
  · have HF := Lib.hid (show inB y 0 1000000000 = taxed L y by simp [taxed, h])
    go_enter Try.func52, Try.ntmps52
    go_wp2_with fail
    refine (sBracketsOk_any A c L _ hz hA).mono ?_
    rintro e w1 ⟨rfl, hs1⟩
    rw [h]
    go_wp2_with (go_at_call 47; refine (l01In_any _ _ _ _).mono ?_; rintro e w' ⟨rfl, rfl⟩)
    go_ret
    exact ⟨ret_bool HF.out, hs1⟩

set_option maxHeartbeats 400000 in
theorem iTaxed_any (A : Option Addr) (c : Nat) (L : List TBracket) (y : Int) (w : World) (hz : L.length ≤ 9223372036854775807) (hA : AtBracket w A L) :
    Calls Try.prog 53 #[.slice A L.length c, .int .i64 y] w fun e w' => e = .returned (.bool (taxed L y)) ∧ Same w w' := by
  cases h : bracketsOk L
  · have HF := Lib.hid (show false = taxed L y by simp [taxed, h])
    go_enter Try.func53, Try.ntmps53
    go_wp2_with fail
    refine (iBracketsOk_any A c L _ hz hA).mono ?_
    rintro e w1 ⟨rfl, hs1⟩
    rw [h]
    go_wp2
    go_ret
    exact ⟨ret_bool HF.out, hs1⟩
  · have HF := Lib.hid (show inB y 0 1000000000 = taxed L y by simp [taxed, h])
    go_enter Try.func53, Try.ntmps53
    go_wp2_with fail
    refine (iBracketsOk_any A c L _ hz hA).mono ?_
    rintro e w1 ⟨rfl, hs1⟩
    rw [h]
    go_wp2_with (go_at_call 49; refine (within_any _ _ _ _).mono ?_; rintro e w' ⟨rfl, rfl⟩)
    go_ret
    exact ⟨ret_bool HF.out, hs1⟩
end Go.Proofs.Ytegcfjnjgklchaa
