/-
  FnExactNetOf, FnExactBackPay, FnExactOverpaid: for every list of corrections and all numbers the program's answers are the reference's, and the list is left as it was. No condition.
-/
import Derived.Test.YtmpeohmhkhhooaaCorrSum
namespace Go.Proofs.Ytmpeohmhkhhooaa
open Go.RowKit

set_option maxHeartbeats 1000000 in
theorem lawNetOf (A : Option Addr) (c : Nat) (L : List TCorrection) (w : World) (hz : L.length ≤ 9223372036854775807) (hA : AtCorrection w A L) :
    Calls Try.prog 3 #[.slice A L.length c] w fun e w' => e = .returned (.bool true) ∧ Same w w' := by
  by_cases hl : L.length ≤ 1048576
  · have hE := Lib.hid (show (netOf L != netOf L) = false by simp)
    go_enter Try.func3, Try.ntmps3
    go_wp2_with fail
    refine (szCorrectionS_any A L.length c 1048576 _ hz (by omega) (by omega)).mono ?_
    rintro e w0 ⟨rfl, rfl⟩
    rw [if_pos (show ((L.length : Int) ≤ 1048576) by omega)]
    go_wp2_with fail
    refine (toCorrectionS_any A c L _ hl hA).mono ?_
    rintro e w1 ⟨rfl, ho1, hs1⟩
    have hx1 := ho1.recs cCorrection_len
    go_wp2_with fail
    refine (sNetOf_any _ _ L _ hz hx1).mono ?_
    rintro e w2 ⟨rfl, hd2⟩
    have hs2 : Same w _ := (hs1).trans hd2
    go_wp2_with fail
    refine (toCorrectionS_any A c L _ hl (hA.same hs2)).mono ?_
    rintro e w3 ⟨rfl, ho3, hs3⟩
    have hx3 := ho3.recs cCorrection_len
    go_wp2_with fail
    refine (iNetOf_any _ _ L _ hz hx3).mono ?_
    rintro e w4 ⟨rfl, hd4⟩
    have hs4 : Same w _ := (hs2.trans hs3).trans hd4
    have hx4 := OwnR.recs cCorrection_len (ho3.same hd4)
    go_wp2_with fail
    refine (toCorrectionS_any A c L _ hl (hA.same hs4)).mono ?_
    rintro e w5 ⟨rfl, ho5, hs5⟩
    go_wp2_with fail
    refine (eqCorrectionS_any _ _ _ _ L L _ hz hz (hx4.same hs5) (ho5.recs cCorrection_len)).mono ?_
    rintro e w6 ⟨rfl, hd6⟩
    go_wp2_with fail
    go_ret
    exact ⟨rfl, (hs4.trans hs5).trans hd6⟩
  · go_enter Try.func3, Try.ntmps3
    go_wp2_with fail
    refine (szCorrectionS_any A L.length c 1048576 _ hz (by omega) (by omega)).mono ?_
    rintro e w0 ⟨rfl, rfl⟩
    rw [if_neg (show ¬ ((L.length : Int) ≤ 1048576) by omega)]
    go_wp2
    go_ret
    exact ⟨rfl, Same.refl _⟩

set_option maxHeartbeats 1000000 in
theorem lawBackPay (A : Option Addr) (c : Nat) (L : List TCorrection) (r : Int) (a : Int) (w : World) (hz : L.length ≤ 9223372036854775807) (hA : AtCorrection w A L) (_ : (Lit.int .i64 r).wf = true) (_ : (Lit.int .i64 a).wf = true) :
    Calls Try.prog 10 #[.slice A L.length c, .int .i64 r, .int .i64 a] w fun e w' => e = .returned (.bool true) ∧ Same w w' := by
  by_cases hl : L.length ≤ 1048576
  · have hE := Lib.hid (show (backPay L r a != backPay L r a) = false by simp)
    go_enter Try.func10, Try.ntmps10
    go_wp2_with fail
    refine (szCorrectionS_any A L.length c 1048576 _ hz (by omega) (by omega)).mono ?_
    rintro e w0 ⟨rfl, rfl⟩
    rw [if_pos (show ((L.length : Int) ≤ 1048576) by omega)]
    go_wp2_with fail
    refine (toCorrectionS_any A c L _ hl hA).mono ?_
    rintro e w1 ⟨rfl, ho1, hs1⟩
    have hx1 := ho1.recs cCorrection_len
    go_wp2_with fail
    refine (sBackPay_any _ _ L r a _ hz hx1).mono ?_
    rintro e w2 ⟨rfl, hd2⟩
    have hs2 : Same w _ := (hs1).trans hd2
    go_wp2_with fail
    refine (toCorrectionS_any A c L _ hl (hA.same hs2)).mono ?_
    rintro e w3 ⟨rfl, ho3, hs3⟩
    have hx3 := ho3.recs cCorrection_len
    go_wp2_with fail
    refine (iBackPay_any _ _ L r a _ hz hx3).mono ?_
    rintro e w4 ⟨rfl, hd4⟩
    have hs4 : Same w _ := (hs2.trans hs3).trans hd4
    have hx4 := OwnR.recs cCorrection_len (ho3.same hd4)
    go_wp2_with fail
    refine (toCorrectionS_any A c L _ hl (hA.same hs4)).mono ?_
    rintro e w5 ⟨rfl, ho5, hs5⟩
    go_wp2_with fail
    refine (eqCorrectionS_any _ _ _ _ L L _ hz hz (hx4.same hs5) (ho5.recs cCorrection_len)).mono ?_
    rintro e w6 ⟨rfl, hd6⟩
    go_wp2_with fail
    go_ret
    exact ⟨rfl, (hs4.trans hs5).trans hd6⟩
  · go_enter Try.func10, Try.ntmps10
    go_wp2_with fail
    refine (szCorrectionS_any A L.length c 1048576 _ hz (by omega) (by omega)).mono ?_
    rintro e w0 ⟨rfl, rfl⟩
    rw [if_neg (show ¬ ((L.length : Int) ≤ 1048576) by omega)]
    go_wp2
    go_ret
    exact ⟨rfl, Same.refl _⟩

set_option maxHeartbeats 1000000 in
theorem lawOverpaid (A : Option Addr) (c : Nat) (L : List TCorrection) (a : Int) (h : Int) (w : World) (hz : L.length ≤ 9223372036854775807) (hA : AtCorrection w A L) (_ : (Lit.int .i64 a).wf = true) (_ : (Lit.int .i64 h).wf = true) :
    Calls Try.prog 11 #[.slice A L.length c, .int .i64 a, .int .i64 h] w fun e w' => e = .returned (.bool true) ∧ Same w w' := by
  by_cases hl : L.length ≤ 1048576
  · have hE := Lib.hid (show (overpaid L a h != overpaid L a h) = false by simp)
    go_enter Try.func11, Try.ntmps11
    go_wp2_with fail
    refine (szCorrectionS_any A L.length c 1048576 _ hz (by omega) (by omega)).mono ?_
    rintro e w0 ⟨rfl, rfl⟩
    rw [if_pos (show ((L.length : Int) ≤ 1048576) by omega)]
    go_wp2_with fail
    refine (toCorrectionS_any A c L _ hl hA).mono ?_
    rintro e w1 ⟨rfl, ho1, hs1⟩
    have hx1 := ho1.recs cCorrection_len
    go_wp2_with fail
    refine (sOverpaid_any _ _ L a h _ hz hx1).mono ?_
    rintro e w2 ⟨rfl, hd2⟩
    have hs2 : Same w _ := (hs1).trans hd2
    go_wp2_with fail
    refine (toCorrectionS_any A c L _ hl (hA.same hs2)).mono ?_
    rintro e w3 ⟨rfl, ho3, hs3⟩
    have hx3 := ho3.recs cCorrection_len
    go_wp2_with fail
    refine (iOverpaid_any _ _ L a h _ hz hx3).mono ?_
    rintro e w4 ⟨rfl, hd4⟩
    have hs4 : Same w _ := (hs2.trans hs3).trans hd4
    have hx4 := OwnR.recs cCorrection_len (ho3.same hd4)
    go_wp2_with fail
    refine (toCorrectionS_any A c L _ hl (hA.same hs4)).mono ?_
    rintro e w5 ⟨rfl, ho5, hs5⟩
    go_wp2_with fail
    refine (eqCorrectionS_any _ _ _ _ L L _ hz hz (hx4.same hs5) (ho5.recs cCorrection_len)).mono ?_
    rintro e w6 ⟨rfl, hd6⟩
    go_wp2_with fail
    go_ret
    exact ⟨rfl, (hs4.trans hs5).trans hd6⟩
  · go_enter Try.func11, Try.ntmps11
    go_wp2_with fail
    refine (szCorrectionS_any A L.length c 1048576 _ hz (by omega) (by omega)).mono ?_
    rintro e w0 ⟨rfl, rfl⟩
    rw [if_neg (show ¬ ((L.length : Int) ≤ 1048576) by omega)]
    go_wp2
    go_ret
    exact ⟨rfl, Same.refl _⟩
end Go.Proofs.Ytmpeohmhkhhooaa
