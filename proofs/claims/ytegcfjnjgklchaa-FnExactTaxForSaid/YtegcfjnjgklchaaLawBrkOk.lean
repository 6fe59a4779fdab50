/-
  FnExactBracketsOk, FnExactMarginalRate, FnExactTaxFor: for every list of brackets and every amount the program's answers are the reference's, and the list is left as it was. No condition.
-/
import Derived.Test.YtegcfjnjgklchaaTax
namespace Go.Proofs.Ytegcfjnjgklchaa
open Go.RowKit

set_option maxHeartbeats 1000000 in
theorem lawBrkOk (A : Option Addr) (c : Nat) (L : List TBracket) (w : World) (hz : L.length ≤ 9223372036854775807) (hA : AtBracket w A L) :
    Calls Try.prog 4 #[.slice A L.length c] w fun e w' => e = .returned (.bool true) ∧ Same w w' := by
  by_cases hl : L.length ≤ 1048576
  · have hE := Lib.hid (show (bracketsOk L != bracketsOk L) = false by simp)
    go_enter Try.func4, Try.ntmps4
    go_wp2_with fail
    refine (szBracketS_any A L.length c 1048576 _ hz (by omega) (by omega)).mono ?_
    rintro e w0 ⟨rfl, rfl⟩
    rw [if_pos (show ((L.length : Int) ≤ 1048576) by omega)]
    go_wp2_with fail
    refine (toBracketS_any A c L _ hl hA).mono ?_
    rintro e w1 ⟨rfl, ho1, hs1⟩
    have hx1 := ho1.recs cBracket_len
    go_wp2_with fail
    refine (sBracketsOk_any _ _ L _ hz hx1).mono ?_
    rintro e w2 ⟨rfl, hd2⟩
    have hs2 : Same w _ := (hs1).trans hd2
    go_wp2_with fail
    refine (toBracketS_any A c L _ hl (hA.same hs2)).mono ?_
    rintro e w3 ⟨rfl, ho3, hs3⟩
    have hx3 := ho3.recs cBracket_len
    go_wp2_with fail
    refine (iBracketsOk_any _ _ L _ hz hx3).mono ?_
    rintro e w4 ⟨rfl, hd4⟩
    have hs4 : Same w _ := (hs2.trans hs3).trans hd4
    have hx4 := OwnR.recs cBracket_len (ho3.same hd4)
    go_wp2_with fail
    refine (toBracketS_any A c L _ hl (hA.same hs4)).mono ?_
    rintro e w5 ⟨rfl, ho5, hs5⟩
    go_wp2_with fail
    refine (eqBracketS_any _ _ _ _ L L _ hz hz (hx4.same hs5) (ho5.recs cBracket_len)).mono ?_
    rintro e w6 ⟨rfl, hd6⟩
    go_wp2_with fail
    go_ret
    exact ⟨rfl, (hs4.trans hs5).trans hd6⟩
  · go_enter Try.func4, Try.ntmps4
    go_wp2_with fail
    refine (szBracketS_any A L.length c 1048576 _ hz (by omega) (by omega)).mono ?_
    rintro e w0 ⟨rfl, rfl⟩
    rw [if_neg (show ¬ ((L.length : Int) ≤ 1048576) by omega)]
    go_wp2
    go_ret
    exact ⟨rfl, Same.refl _⟩

set_option maxHeartbeats 1000000 in
theorem lawMarginal (A : Option Addr) (c : Nat) (L : List TBracket) (y : Int) (w : World) (hz : L.length ≤ 9223372036854775807) (hA : AtBracket w A L) (_ : (Lit.int .i64 y).wf = true) :
    Calls Try.prog 6 #[.slice A L.length c, .int .i64 y] w fun e w' => e = .returned (.bool true) ∧ Same w w' := by
  by_cases hl : L.length ≤ 1048576
  · have hE := Lib.hid (show (marginal L y != marginal L y) = false by simp)
    go_enter Try.func6, Try.ntmps6
    go_wp2_with fail
    refine (szBracketS_any A L.length c 1048576 _ hz (by omega) (by omega)).mono ?_
    rintro e w0 ⟨rfl, rfl⟩
    rw [if_pos (show ((L.length : Int) ≤ 1048576) by omega)]
    go_wp2_with fail
    refine (toBracketS_any A c L _ hl hA).mono ?_
    rintro e w1 ⟨rfl, ho1, hs1⟩
    have hx1 := ho1.recs cBracket_len
    go_wp2_with fail
    refine (sMarginal_any _ _ L y _ hz hx1).mono ?_
    rintro e w2 ⟨rfl, hd2⟩
    have hs2 : Same w _ := (hs1).trans hd2
    go_wp2_with fail
    refine (toBracketS_any A c L _ hl (hA.same hs2)).mono ?_
    rintro e w3 ⟨rfl, ho3, hs3⟩
    have hx3 := ho3.recs cBracket_len
    go_wp2_with fail
    refine (iMarginal_any _ _ L y _ hz hx3).mono ?_
    rintro e w4 ⟨rfl, hd4⟩
    have hs4 : Same w _ := (hs2.trans hs3).trans hd4
    have hx4 := OwnR.recs cBracket_len (ho3.same hd4)
    go_wp2_with fail
    refine (toBracketS_any A c L _ hl (hA.same hs4)).mono ?_
    rintro e w5 ⟨rfl, ho5, hs5⟩
    go_wp2_with fail
    refine (eqBracketS_any _ _ _ _ L L _ hz hz (hx4.same hs5) (ho5.recs cBracket_len)).mono ?_
    rintro e w6 ⟨rfl, hd6⟩
    go_wp2_with fail
    go_ret
    exact ⟨rfl, (hs4.trans hs5).trans hd6⟩
  · go_enter Try.func6, Try.ntmps6
    go_wp2_with fail
    refine (szBracketS_any A L.length c 1048576 _ hz (by omega) (by omega)).mono ?_
    rintro e w0 ⟨rfl, rfl⟩
    rw [if_neg (show ¬ ((L.length : Int) ≤ 1048576) by omega)]
    go_wp2
    go_ret
    exact ⟨rfl, Same.refl _⟩

set_option maxHeartbeats 1000000 in
theorem lawTaxFor (A : Option Addr) (c : Nat) (L : List TBracket) (y : Int) (w : World) (hz : L.length ≤ 9223372036854775807) (hA : AtBracket w A L) (_ : (Lit.int .i64 y).wf = true) :
    Calls Try.prog 7 #[.slice A L.length c, .int .i64 y] w fun e w' => e = .returned (.bool true) ∧ Same w w' := by
  by_cases hl : L.length ≤ 1048576
  · have hE := Lib.hid (show (taxFor L y != taxFor L y) = false by simp)
    go_enter Try.func7, Try.ntmps7
    go_wp2_with fail
    refine (szBracketS_any A L.length c 1048576 _ hz (by omega) (by omega)).mono ?_
    rintro e w0 ⟨rfl, rfl⟩
    rw [if_pos (show ((L.length : Int) ≤ 1048576) by omega)]
    go_wp2_with fail
    refine (toBracketS_any A c L _ hl hA).mono ?_
    rintro e w1 ⟨rfl, ho1, hs1⟩
    have hx1 := ho1.recs cBracket_len
    go_wp2_with fail
    refine (sTaxFor_any _ _ L y _ hz hx1).mono ?_
    rintro e w2 ⟨rfl, hd2⟩
    have hs2 : Same w _ := (hs1).trans hd2
    go_wp2_with fail
    refine (toBracketS_any A c L _ hl (hA.same hs2)).mono ?_
    rintro e w3 ⟨rfl, ho3, hs3⟩
    have hx3 := ho3.recs cBracket_len
    go_wp2_with fail
    refine (iTaxFor_any _ _ L y _ hz hx3).mono ?_
    rintro e w4 ⟨rfl, hd4⟩
    have hs4 : Same w _ := (hs2.trans hs3).trans hd4
    have hx4 := OwnR.recs cBracket_len (ho3.same hd4)
    go_wp2_with fail
    refine (toBracketS_any A c L _ hl (hA.same hs4)).mono ?_
    rintro e w5 ⟨rfl, ho5, hs5⟩
    go_wp2_with fail
    refine (eqBracketS_any _ _ _ _ L L _ hz hz (hx4.same hs5) (ho5.recs cBracket_len)).mono ?_
    rintro e w6 ⟨rfl, hd6⟩
    go_wp2_with fail
    go_ret
    exact ⟨rfl, (hs4.trans hs5).trans hd6⟩
  · go_enter Try.func7, Try.ntmps7
    go_wp2_with fail
    refine (szBracketS_any A L.length c 1048576 _ hz (by omega) (by omega)).mono ?_
    rintro e w0 ⟨rfl, rfl⟩
    rw [if_neg (show ¬ ((L.length : Int) ≤ 1048576) by omega)]
    go_wp2
    go_ret
    exact ⟨rfl, Same.refl _⟩
end Go.Proofs.Ytegcfjnjgklchaa
