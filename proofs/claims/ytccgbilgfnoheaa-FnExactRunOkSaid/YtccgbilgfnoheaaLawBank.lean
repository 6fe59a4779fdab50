/-
  FnExactBankOk, FnExactRunOk: for every bank, every run the program's answers are the reference's, and the argument is left as it was. No condition.
-/
import Derived.Test.YtccgbilgfnoheaaBank2
import Derived.Test.YtccgbilgfnoheaaRun2
import Derived.Deep.RegionHeld3
namespace Go.Proofs.Ytccgbilgfnoheaa
open Go.RowKit
set_option linter.unusedVariables false

set_option maxHeartbeats 4000000 in
theorem lawBankOk (Ab0 : Option Addr) (cb0 : Nat) (b0 : List Int) (Ab1 : Option Addr) (cb1 : Nat) (b1 : List Int) (w : World) (hzb0 : b0.length ≤ 9223372036854775807) (hAb0 : IntsAt w Ab0 b0) (hwb0 : Wide b0) (hzb1 : b1.length ≤ 9223372036854775807) (hAb1 : IntsAt w Ab1 b1) (hwb1 : Wide b1) :
    Calls Try.prog 4 #[.agg #[.slice Ab0 b0.length cb0, .slice Ab1 b1.length cb1]] w fun e w' => e = .returned (.bool true) ∧ Same w w' := by
  by_cases hl : (b0.length : Int) + (b1.length : Int) ≤ 1048576
  · have hE := Lib.hid (show (bankOk b0 b1 != bankOk b0 b1) = false by simp)
    have hlb0 : b0.length ≤ 1048576 := by omega
    have hlb1 : b1.length ≤ 1048576 := by omega
    go_enter Try.func4, Try.ntmps4
    go_wp2_with fail
    have ha := BoxAt.new w 42 [.slice Ab0 b0.length cb0, .slice Ab1 b1.length cb1]
    have hs0 := (Same.refl w).alloc (.cells #[.slice Ab0 b0.length cb0, .slice Ab1 b1.length cb1] 42)
    generalize w.alloc (.cells #[.slice Ab0 b0.length cb0, .slice Ab1 b1.length cb1] 42) = w0 at *
    refine (szBank_any Ab0 b0.length cb0 Ab1 b1.length cb1 1048576 _ hzb0 hzb1 (by omega) (by omega)).mono ?_
    rintro e w1 ⟨rfl, hs1⟩
    rw [if_pos hl]
    have S1 := hs0.trans hs1
    replace ha := ha.same hs1
    have a0 := ha.cell 0 rfl
    have a1 := ha.cell 1 rfl
    clear hs0 hs1
    go_wp2_with fail
    refine (toBank_any Ab0 cb0 b0 Ab1 cb1 b1 _ hlb0 (hAb0.same S1) hlb1 (hAb1.same S1)).mono ?_
    rintro e w2 ⟨Bb02, eb02, Bb12, eb12, rfl, ho2b0, ho2b1, sp2, hs2⟩
    go_wp2_with fail
    refine (sBankOk_any _ _ _ _ b0 b1 _ hzb0 hzb1 ho2b0.cap (OwnI.ints ho2b0) (OwnI.ints ho2b1)).mono ?_
    rintro e w3 ⟨rfl, hs3⟩
    have S3 := (S1.trans hs2).trans hs3
    replace ha := ha.same (hs2.trans hs3)
    have a0 := ha.cell 0 rfl
    have a1 := ha.cell 1 rfl
    clear ho2b0 ho2b1 hs2 hs3 S1
    go_wp2_with fail
    refine (toBank_any Ab0 cb0 b0 Ab1 cb1 b1 _ hlb0 (hAb0.same S3) hlb1 (hAb1.same S3)).mono ?_
    rintro e w4 ⟨Bb04, eb04, Bb14, eb14, rfl, ho4b0, ho4b1, sp4, hs4⟩
    replace ha := ha.same hs4
    have S4 := S3.trans hs4
    clear hs4 S3
    go_wp2_with fail
    have hx := BoxAt.new w4 29 [.slice Bb04 b0.length eb04, .slice Bb14 b1.length eb14]
    have hs5 := (Same.refl w4).alloc (.cells #[.slice Bb04 b0.length eb04, .slice Bb14 b1.length eb14] 29)
    generalize w4.alloc (.cells #[.slice Bb04 b0.length eb04, .slice Bb14 b1.length eb14] 29) = w5 at *
    replace ho4b0 := OwnI.same ho4b0 hs5
    replace ho4b1 := OwnI.same ho4b1 hs5
    refine (iBankOk_any _ _ _ _ b0 b1 _ hzb0 hzb1 hwb0 (OwnI.ints ho4b0) (OwnI.ints ho4b1)).mono ?_
    rintro e w6 ⟨rfl, hs6⟩
    have S6 := (S4.trans hs5).trans hs6
    replace ha := ha.same (hs5.trans hs6)
    replace hx := hx.same hs6
    replace ho4b0 := OwnI.same ho4b0 hs6
    replace ho4b1 := OwnI.same ho4b1 hs6
    clear hs5 hs6 S4 a0 a1
    have a0 := ha.cell 0 rfl
    have a1 := ha.cell 1 rfl
    have x0 := hx.cell 0 rfl
    have x1 := hx.cell 1 rfl
    go_wp2_with fail
    go_region_held3 (fun w' => w'.cell? ⟨w.heap.size, 0, none⟩ = some (.slice Ab0 b0.length cb0) ∧ w'.cell? ⟨w.heap.size, 1, none⟩ = some (.slice Ab1 b1.length cb1) ∧ w'.cell? ⟨w4.heap.size, 0, none⟩ = some (.slice Bb04 b0.length eb04) ∧ w'.cell? ⟨w4.heap.size, 1, none⟩ = some (.slice Bb14 b1.length eb14))
      (first | exact ⟨a0, a1, x0, x1⟩ | exact ⟨(ha.same ((Same.refl _).drew.trans hs7)).cell 0 rfl, (ha.same ((Same.refl _).drew.trans hs7)).cell 1 rfl, (hx.same ((Same.refl _).drew.trans hs7)).cell 0 rfl, (hx.same ((Same.refl _).drew.trans hs7)).cell 1 rfl⟩ | exact ⟨(ha.same (((Same.refl _).drew.trans hs7).trans hs8)).cell 0 rfl, (ha.same (((Same.refl _).drew.trans hs7).trans hs8)).cell 1 rfl, (hx.same (((Same.refl _).drew.trans hs7).trans hs8)).cell 0 rfl, (hx.same (((Same.refl _).drew.trans hs7).trans hs8)).cell 1 rfl⟩)
      (first
        | (go_at_call 27; refine (toBank_any Ab0 cb0 b0 Ab1 cb1 b1 _ hlb0 (hAb0.same S6.drew) hlb1 (hAb1.same S6.drew)).mono ?_; rintro e w7 ⟨Bb07, eb07, Bb17, eb17, rfl, ho7b0, ho7b1, sp7, hs7⟩)
        | (go_at_call 28; refine (eqBank_any _ _ _ _ b0 b0 _ _ _ _ b1 b1  _ hzb0 hzb0 (OwnI.ints (OwnI.same ho4b0 ((Same.refl _).drew.trans hs7))) (OwnI.ints ho7b0) hzb1 hzb1 (OwnI.ints (OwnI.same ho4b1 ((Same.refl _).drew.trans hs7))) (OwnI.ints ho7b1)).mono ?_; rintro e w8 ⟨rfl, hs8⟩; rw [show (decide (b0 = b0) && decide (b1 = b1)) = true by simp]))
    go_wp2
    go_ret
    exact ⟨rfl, (S6.drew.trans hs7).trans hs8⟩
  · go_enter Try.func4, Try.ntmps4
    go_wp2_with fail
    refine (szBank_any Ab0 b0.length cb0 Ab1 b1.length cb1 1048576 _ hzb0 hzb1 (by omega) (by omega)).mono ?_
    rintro e w1 ⟨rfl, hs1⟩
    rw [if_neg (show ¬ (b0.length : Int) + (b1.length : Int) ≤ 1048576 by omega)]
    go_wp2
    go_ret
    exact ⟨rfl, ((Same.refl w).alloc _).trans hs1⟩

set_option maxHeartbeats 4000000 in
theorem lawRunOk (r0 : Int) (Ar1 : Option Addr) (cr1 : Nat) (r1 : List TItem) (w : World) (hzr1 : r1.length ≤ 9223372036854775807) (hAr1 : AtItem w Ar1 r1) :
    Calls Try.prog 5 #[.agg #[.int .i64 r0, .slice Ar1 r1.length cr1]] w fun e w' => e = .returned (.bool true) ∧ Same w w' := by
  by_cases hl : (r1.length : Int) ≤ 1048576
  · have hE := Lib.hid (show (runOk r0 r1 != runOk r0 r1) = false by simp)
    have hlr1 : r1.length ≤ 1048576 := by omega
    go_enter Try.func5, Try.ntmps5
    go_wp2_with fail
    have ha := BoxAt.new w 49 [.int .i64 r0, .slice Ar1 r1.length cr1]
    have hs0 := (Same.refl w).alloc (.cells #[.int .i64 r0, .slice Ar1 r1.length cr1] 49)
    generalize w.alloc (.cells #[.int .i64 r0, .slice Ar1 r1.length cr1] 49) = w0 at *
    refine (szRun_any r0 Ar1 r1.length cr1 1048576 _ hzr1 (by omega) (by omega)).mono ?_
    rintro e w1 ⟨rfl, hs1⟩
    rw [if_pos hl]
    have S1 := hs0.trans hs1
    replace ha := ha.same hs1
    have a0 := ha.cell 0 rfl
    have a1 := ha.cell 1 rfl
    clear hs0 hs1
    go_wp2_with fail
    refine (toRun_any r0 Ar1 cr1 r1 _ hlr1 (hAr1.same S1)).mono ?_
    rintro e w2 ⟨Br12, er12, rfl, ho2r1, hs2⟩
    go_wp2_with fail
    refine (sRunOk_any r0 _ _ r1 _ hzr1 (OwnR.recs cItem_len ho2r1)).mono ?_
    rintro e w3 ⟨rfl, hs3⟩
    have S3 := (S1.trans hs2).trans hs3
    replace ha := ha.same (hs2.trans hs3)
    have a0 := ha.cell 0 rfl
    have a1 := ha.cell 1 rfl
    clear ho2r1 hs2 hs3 S1
    go_wp2_with fail
    refine (toRun_any r0 Ar1 cr1 r1 _ hlr1 (hAr1.same S3)).mono ?_
    rintro e w4 ⟨Br14, er14, rfl, ho4r1, hs4⟩
    replace ha := ha.same hs4
    have S4 := S3.trans hs4
    clear hs4 S3
    go_wp2_with fail
    have hx := BoxAt.new w4 26 [.int .i64 r0, .slice Br14 r1.length er14]
    have hs5 := (Same.refl w4).alloc (.cells #[.int .i64 r0, .slice Br14 r1.length er14] 26)
    generalize w4.alloc (.cells #[.int .i64 r0, .slice Br14 r1.length er14] 26) = w5 at *
    replace ho4r1 := OwnR.same ho4r1 hs5
    refine (iRunOk_any r0 _ _ r1 _ hzr1 (OwnR.cap ho4r1) (OwnR.recs cItem_len ho4r1)).mono ?_
    rintro e w6 ⟨rfl, hs6⟩
    have S6 := (S4.trans hs5).trans hs6
    replace ha := ha.same (hs5.trans hs6)
    replace hx := hx.same hs6
    replace ho4r1 := OwnR.same ho4r1 hs6
    clear hs5 hs6 S4 a0 a1
    have a0 := ha.cell 0 rfl
    have a1 := ha.cell 1 rfl
    have x0 := hx.cell 0 rfl
    have x1 := hx.cell 1 rfl
    go_wp2_with fail
    go_region_held3 (fun w' => w'.cell? ⟨w.heap.size, 0, none⟩ = some (.int .i64 r0) ∧ w'.cell? ⟨w.heap.size, 1, none⟩ = some (.slice Ar1 r1.length cr1) ∧ w'.cell? ⟨w4.heap.size, 0, none⟩ = some (.int .i64 r0) ∧ w'.cell? ⟨w4.heap.size, 1, none⟩ = some (.slice Br14 r1.length er14))
      (first | exact ⟨a0, a1, x0, x1⟩ | exact ⟨(ha.same ((Same.refl _).drew.trans hs7)).cell 0 rfl, (ha.same ((Same.refl _).drew.trans hs7)).cell 1 rfl, (hx.same ((Same.refl _).drew.trans hs7)).cell 0 rfl, (hx.same ((Same.refl _).drew.trans hs7)).cell 1 rfl⟩ | exact ⟨(ha.same (((Same.refl _).drew.trans hs7).trans hs8)).cell 0 rfl, (ha.same (((Same.refl _).drew.trans hs7).trans hs8)).cell 1 rfl, (hx.same (((Same.refl _).drew.trans hs7).trans hs8)).cell 0 rfl, (hx.same (((Same.refl _).drew.trans hs7).trans hs8)).cell 1 rfl⟩)
      (first
        | (go_at_call 31; refine (toRun_any r0 Ar1 cr1 r1 _ hlr1 (hAr1.same S6.drew)).mono ?_; rintro e w7 ⟨Br17, er17, rfl, ho7r1, hs7⟩)
        | (go_at_call 32; refine (eqRun_any _ _ _ _ r1 r1 r0 r0 _ hzr1 hzr1 (OwnR.recs cItem_len (OwnR.same ho4r1 ((Same.refl _).drew.trans hs7))) (OwnR.recs cItem_len ho7r1)).mono ?_; rintro e w8 ⟨rfl, hs8⟩; rw [show (decide (r1 = r1) && decide (r0 = r0)) = true by simp]))
    go_wp2
    go_ret
    exact ⟨rfl, (S6.drew.trans hs7).trans hs8⟩
  · go_enter Try.func5, Try.ntmps5
    go_wp2_with fail
    refine (szRun_any r0 Ar1 r1.length cr1 1048576 _ hzr1 (by omega) (by omega)).mono ?_
    rintro e w1 ⟨rfl, hs1⟩
    rw [if_neg (show ¬ (r1.length : Int) ≤ 1048576 by omega)]
    go_wp2
    go_ret
    exact ⟨rfl, ((Same.refl w).alloc _).trans hs1⟩
end Go.Proofs.Ytccgbilgfnoheaa
