/-
  FnExactNetYear: for every list of brackets and every amount the program's NetYear and the reference's answer alike, and the list is left as it was. No condition.
-/
import Derived.Test.YtegcfjnjgklchaaTax2
namespace Go.Proofs.Ytegcfjnjgklchaa
open Go.RowKit

set_option maxHeartbeats 1000000 in
theorem lawNetYear (A : Option Addr) (c : Nat) (L : List TBracket) (y : Int) (w : World) (hz : L.length ≤ 9223372036854775807) (hA : AtBracket w A L) (_ : (Lit.int .i64 y).wf = true) :
    Calls Try.prog 11 #[.slice A L.length c, .int .i64 y] w fun e w' => e = .returned (.bool true) ∧ Same w w' := by
  by_cases hl : L.length ≤ 1048576
  · have hE := Lib.hid (show (netYear L y != netYear L y) = false by simp)
    go_enter Try.func11, Try.ntmps11
    go_wp2_with fail
    refine (szBracketS_any A L.length c 1048576 _ hz (by omega) (by omega)).mono ?_
    rintro e w0 ⟨rfl, rfl⟩
    rw [if_pos (show ((L.length : Int) ≤ 1048576) by omega)]
    go_wp2_with fail
    refine (toBracketS_any A c L _ hl hA).mono ?_
    rintro e w1 ⟨rfl, ho1, hs1⟩
    have hx1 := ho1.recs cBracket_len
    go_wp2_with fail
    refine (sNetYear_any _ _ L y _ hz hx1).mono ?_
    rintro e w2 ⟨rfl, hd2⟩
    have hs2 : Same w _ := (hs1).trans hd2
    go_wp2_with fail
    refine (toBracketS_any A c L _ hl (hA.same hs2)).mono ?_
    rintro e w3 ⟨rfl, ho3, hs3⟩
    have hx3 := ho3.recs cBracket_len
    go_wp2_with fail
    refine (iNetYear_any _ _ L y _ hz hx3).mono ?_
    rintro e w4 ⟨rfl, hd4⟩
    have hs4 : Same w _ := (hs2.trans hs3).trans hd4
    have hx4 := OwnR.recs cBracket_len (ho3.same hd4)
    go_wp2_with fail
    refine (toBracketS_any A c L _ hl (hA.same hs4)).mono ?_
    rintro e w5 ⟨rfl, ho5, hs5⟩
    go_wp2_with fail
    refine (eqBracketS_any _ _ _ _ L L _ hz hz (hx4.same hs5) (ho5.recs cBracket_len)).mono ?_
    rintro e w6 ⟨rfl, hd6⟩
    go_wp2_with fail
    go_ret
    exact ⟨rfl, (hs4.trans hs5).trans hd6⟩
  · go_enter Try.func11, Try.ntmps11
    go_wp2_with fail
    refine (szBracketS_any A L.length c 1048576 _ hz (by omega) (by omega)).mono ?_
    rintro e w0 ⟨rfl, rfl⟩
    rw [if_neg (show ¬ ((L.length : Int) ≤ 1048576) by omega)]
    go_wp2
    go_ret
    exact ⟨rfl, Same.refl _⟩
end Go.Proofs.Ytegcfjnjgklchaa
