/-
  FnExactLedgerOk, FnExactBooksOk: for every ledger, all books the program's answers are the reference's, and the argument is left as it was. No condition.
-/
import Derived.Test.YthelclibokkdnaaLedger
import Derived.Deep.RegionHeld3
namespace Go.Proofs.Ythelclibokkdnaa
open Go.RowKit

set_option maxHeartbeats 1000000 in
theorem lawLedgerOk (AL : Option Addr) (cL : Nat) (L : List TPosting) (w : World) (hzL : L.length ≤ 9223372036854775807) (hAL : AtPosting w AL L) :
    Calls Try.prog 5 #[.agg #[.slice AL L.length cL]] w fun e w' => e = .returned (.bool true) ∧ Same w w' := by
  by_cases hl : (L.length : Int) ≤ 1048576
  · have hE := Lib.hid (show (ledgerOk L != ledgerOk L) = false by simp)
    have hlL : L.length ≤ 1048576 := by omega
    go_enter Try.func5, Try.ntmps5
    go_wp2_with fail
    have ha := BoxAt.new w 33 [.slice AL L.length cL]
    have hs0 := (Same.refl w).alloc (.cells #[.slice AL L.length cL] 33)
    generalize w.alloc (.cells #[.slice AL L.length cL] 33) = w0 at *
    refine (szLedger_any AL L.length cL 1048576 _ hzL (by omega) (by omega)).mono ?_
    rintro e w1 ⟨rfl, hs1⟩
    rw [if_pos hl]
    have S1 := hs0.trans hs1
    replace ha := ha.same hs1
    have a0 := ha.cell 0 rfl
    clear hs0 hs1
    go_wp2_with fail
    refine (toLedger_any AL cL L _ hlL (hAL.same S1)).mono ?_
    rintro e w2 ⟨BL2, eL2, rfl, ho2L, hs2⟩
    go_wp2_with fail
    refine (sLedgerOk_any _ _ L _ hzL (OwnR.recs cPosting_len ho2L)).mono ?_
    rintro e w3 ⟨rfl, hs3⟩
    have S3 := (S1.trans hs2).trans hs3
    replace ha := ha.same (hs2.trans hs3)
    have a0 := ha.cell 0 rfl
    clear ho2L hs2 hs3 S1
    go_wp2_with fail
    refine (toLedger_any AL cL L _ hlL (hAL.same S3)).mono ?_
    rintro e w4 ⟨BL4, eL4, rfl, ho4L, hs4⟩
    replace ha := ha.same hs4
    have S4 := S3.trans hs4
    clear hs4 S3
    go_wp2_with fail
    have hx := BoxAt.new w4 38 [.slice BL4 L.length eL4]
    have hs5 := (Same.refl w4).alloc (.cells #[.slice BL4 L.length eL4] 38)
    generalize w4.alloc (.cells #[.slice BL4 L.length eL4] 38) = w5 at *
    replace ho4L := OwnR.same ho4L hs5
    refine (iLedgerOk_any _ _ L _ hzL (OwnR.recs cPosting_len ho4L)).mono ?_
    rintro e w6 ⟨rfl, hs6⟩
    have S6 := (S4.trans hs5).trans hs6
    replace ha := ha.same (hs5.trans hs6)
    replace hx := hx.same hs6
    replace ho4L := OwnR.same ho4L hs6
    clear hs5 hs6 S4 a0
    have a0 := ha.cell 0 rfl
    have x0 := hx.cell 0 rfl
    go_wp2_with fail
    go_region_held3 (fun w' => w'.cell? ⟨w.heap.size, 0, none⟩ = some (.slice AL L.length cL) ∧ w'.cell? ⟨w4.heap.size, 0, none⟩ = some (.slice BL4 L.length eL4))
      (first | exact ⟨a0, x0⟩ | exact ⟨(ha.same ((Same.refl _).drew.trans hs7)).cell 0 rfl, (hx.same ((Same.refl _).drew.trans hs7)).cell 0 rfl⟩ | exact ⟨(ha.same (((Same.refl _).drew.trans hs7).trans hs8)).cell 0 rfl, (hx.same (((Same.refl _).drew.trans hs7).trans hs8)).cell 0 rfl⟩)
      (first
        | (go_at_call 24; refine (toLedger_any AL cL L _ hlL (hAL.same S6.drew)).mono ?_; rintro e w7 ⟨BL7, eL7, rfl, ho7L, hs7⟩)
        | (go_at_call 26; refine (eqLedger_any _ _ _ _ L L  _ hzL hzL (OwnR.recs cPosting_len (OwnR.same ho4L ((Same.refl _).drew.trans hs7))) (OwnR.recs cPosting_len ho7L)).mono ?_; rintro e w8 ⟨rfl, hs8⟩; rw [show (decide (L = L)) = true by simp]))
    go_wp2
    go_ret
    exact ⟨rfl, (S6.drew.trans hs7).trans hs8⟩
  · go_enter Try.func5, Try.ntmps5
    go_wp2_with fail
    refine (szLedger_any AL L.length cL 1048576 _ hzL (by omega) (by omega)).mono ?_
    rintro e w1 ⟨rfl, hs1⟩
    rw [if_neg (show ¬ (L.length : Int) ≤ 1048576 by omega)]
    go_wp2
    go_ret
    exact ⟨rfl, ((Same.refl w).alloc _).trans hs1⟩

set_option maxHeartbeats 1000000 in
theorem lawBooksOk (Ab0 : Option Addr) (cb0 : Nat) (b0 : List TPosting) (b1 : Int) (w : World) (hzb0 : b0.length ≤ 9223372036854775807) (hAb0 : AtPosting w Ab0 b0) :
    Calls Try.prog 6 #[.agg #[.slice Ab0 b0.length cb0, .int .i64 b1]] w fun e w' => e = .returned (.bool true) ∧ Same w w' := by
  by_cases hl : (b0.length : Int) ≤ 1048576
  · have hE := Lib.hid (show ((ledgerOk b0 && inB b1 0 3599) != (ledgerOk b0 && inB b1 0 3599)) = false by simp)
    have hlb0 : b0.length ≤ 1048576 := by omega
    go_enter Try.func6, Try.ntmps6
    go_wp2_with fail
    have ha := BoxAt.new w 43 [.slice Ab0 b0.length cb0, .int .i64 b1]
    have hs0 := (Same.refl w).alloc (.cells #[.slice Ab0 b0.length cb0, .int .i64 b1] 43)
    generalize w.alloc (.cells #[.slice Ab0 b0.length cb0, .int .i64 b1] 43) = w0 at *
    refine (szBooks_any Ab0 b0.length cb0 b1 1048576 _ hzb0 (by omega) (by omega)).mono ?_
    rintro e w1 ⟨rfl, hs1⟩
    rw [if_pos hl]
    have S1 := hs0.trans hs1
    replace ha := ha.same hs1
    have a0 := ha.cell 0 rfl
    have a1 := ha.cell 1 rfl
    clear hs0 hs1
    go_wp2_with fail
    refine (toBooks_any Ab0 cb0 b0 b1 _ hlb0 (hAb0.same S1)).mono ?_
    rintro e w2 ⟨Bb02, eb02, rfl, ho2b0, hs2⟩
    go_wp2_with fail
    refine (sBooksOk_any _ _ b0 b1 _ hzb0 (OwnR.recs cPosting_len ho2b0)).mono ?_
    rintro e w3 ⟨rfl, hs3⟩
    have S3 := (S1.trans hs2).trans hs3
    replace ha := ha.same (hs2.trans hs3)
    have a0 := ha.cell 0 rfl
    have a1 := ha.cell 1 rfl
    clear ho2b0 hs2 hs3 S1
    go_wp2_with fail
    refine (toBooks_any Ab0 cb0 b0 b1 _ hlb0 (hAb0.same S3)).mono ?_
    rintro e w4 ⟨Bb04, eb04, rfl, ho4b0, hs4⟩
    replace ha := ha.same hs4
    have S4 := S3.trans hs4
    clear hs4 S3
    go_wp2_with fail
    have hx := BoxAt.new w4 47 [.slice Bb04 b0.length eb04, .int .i64 b1]
    have hs5 := (Same.refl w4).alloc (.cells #[.slice Bb04 b0.length eb04, .int .i64 b1] 47)
    generalize w4.alloc (.cells #[.slice Bb04 b0.length eb04, .int .i64 b1] 47) = w5 at *
    replace ho4b0 := OwnR.same ho4b0 hs5
    refine (iBooksOk_any _ _ b0 b1 _ hzb0 (OwnR.recs cPosting_len ho4b0)).mono ?_
    rintro e w6 ⟨rfl, hs6⟩
    have S6 := (S4.trans hs5).trans hs6
    replace ha := ha.same (hs5.trans hs6)
    replace hx := hx.same hs6
    replace ho4b0 := OwnR.same ho4b0 hs6
    clear hs5 hs6 S4 a0 a1
    have a0 := ha.cell 0 rfl
    have a1 := ha.cell 1 rfl
    have x0 := hx.cell 0 rfl
    have x1 := hx.cell 1 rfl
    go_wp2_with fail
    go_region_held3 (fun w' => w'.cell? ⟨w.heap.size, 0, none⟩ = some (.slice Ab0 b0.length cb0) ∧ w'.cell? ⟨w.heap.size, 1, none⟩ = some (.int .i64 b1) ∧ w'.cell? ⟨w4.heap.size, 0, none⟩ = some (.slice Bb04 b0.length eb04) ∧ w'.cell? ⟨w4.heap.size, 1, none⟩ = some (.int .i64 b1))
      (first | exact ⟨a0, a1, x0, x1⟩ | exact ⟨(ha.same ((Same.refl _).drew.trans hs7)).cell 0 rfl, (ha.same ((Same.refl _).drew.trans hs7)).cell 1 rfl, (hx.same ((Same.refl _).drew.trans hs7)).cell 0 rfl, (hx.same ((Same.refl _).drew.trans hs7)).cell 1 rfl⟩ | exact ⟨(ha.same (((Same.refl _).drew.trans hs7).trans hs8)).cell 0 rfl, (ha.same (((Same.refl _).drew.trans hs7).trans hs8)).cell 1 rfl, (hx.same (((Same.refl _).drew.trans hs7).trans hs8)).cell 0 rfl, (hx.same (((Same.refl _).drew.trans hs7).trans hs8)).cell 1 rfl⟩)
      (first
        | (go_at_call 29; refine (toBooks_any Ab0 cb0 b0 b1 _ hlb0 (hAb0.same S6.drew)).mono ?_; rintro e w7 ⟨Bb07, eb07, rfl, ho7b0, hs7⟩)
        | (go_at_call 31; refine (eqBooks_any _ _ _ _ b0 b0 b1 b1 _ hzb0 hzb0 (OwnR.recs cPosting_len (OwnR.same ho4b0 ((Same.refl _).drew.trans hs7))) (OwnR.recs cPosting_len ho7b0)).mono ?_; rintro e w8 ⟨rfl, hs8⟩; rw [show (decide (b0 = b0) && decide (b1 = b1)) = true by simp]))
    go_wp2
    go_ret
    exact ⟨rfl, (S6.drew.trans hs7).trans hs8⟩
  · go_enter Try.func6, Try.ntmps6
    go_wp2_with fail
    refine (szBooks_any Ab0 b0.length cb0 b1 1048576 _ hzb0 (by omega) (by omega)).mono ?_
    rintro e w1 ⟨rfl, hs1⟩
    rw [if_neg (show ¬ (b0.length : Int) ≤ 1048576 by omega)]
    go_wp2
    go_ret
    exact ⟨rfl, ((Same.refl w).alloc _).trans hs1⟩
end Go.Proofs.Ythelclibokkdnaa
