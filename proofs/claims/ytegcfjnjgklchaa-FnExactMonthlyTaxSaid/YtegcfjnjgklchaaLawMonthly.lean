/-
  FnExactMonthlyTax: for every list of brackets and every amount the program's MonthlyTax and the reference's hand back the same list, in memory of its own, and the list that came in is left as it was. No condition.
-/
import Derived.Test.YtegcfjnjgklchaaTax2
import Derived.Test.YtegcfjnjgklchaaBrkMark
namespace Go.Proofs.Ytegcfjnjgklchaa
open Go.RowKit

theorem monthly_len (L : List TBracket) (y : Int) : (monthly L y).length ≤ 600000 := by
  unfold monthly; split
  · rw [spreadTo_length]; omega
  · simp

set_option maxHeartbeats 2000000 in
theorem lawMonthly (AL : Option Addr) (cL : Nat) (L : List TBracket) (y : Int) (w : World) (hzL : L.length ≤ 9223372036854775807) (hAL : AtBracket w AL L) (_ : (Lit.int .i64 y).wf = true) :
    Calls Try.prog 14 #[.slice AL L.length cL, .int .i64 y] w fun e w' => e = .returned (.bool true) ∧ Same w w' := by
  by_cases hlL : L.length ≤ 1048576
  · obtain ⟨P, hP⟩ : ∃ P, P = monthly L y := ⟨_, rfl⟩
    have hlP : P.length ≤ 600000 := by rw [hP]; exact monthly_len L y
    have hzP : P.length ≤ 9223372036854775807 := by omega
    have HP := Lib.hid hP
    clear hP
    go_enter Try.func14, Try.ntmps14
    go_wp2_with fail
    refine (szBracketS_any AL L.length cL 1048576 _ hzL (by omega) (by omega)).mono ?_
    rintro e w00 ⟨rfl, rfl⟩
    rw [if_pos (show ((L.length : Int) ≤ 1048576) by omega)]
    go_wp2_with fail
    refine (toBracketS_any AL cL L _ hlL (hAL.same (Same.refl w))).mono ?_
    rintro e w1 ⟨rfl, ho0, hs1⟩
    have zho0 := Zn.of ho0
    have n1 := hs1.size
    have S1 : Same w w1 := (Same.refl w).trans hs1
    clear hs1
    go_wp2_with fail
    refine (sMonthly_any _ _ L y _ hzL (OwnR.recs cBracket_len ho0)).mono ?_
    rw [← HP.out]
    rintro e w2 ⟨A2_, c2_, rfl, hw, hs2⟩
    have zhw := Zn.of hw
    replace ho0 := OwnR.same ho0 hs2
    have n2 := hs2.size
    have S2 : Same w w2 := S1.trans hs2
    clear hs2 S1
    clear ho0 zho0
    go_wp2_with fail
    refine (toBracketS_any AL cL L _ hlL (hAL.same S2)).mono ?_
    rintro e w3 ⟨rfl, hx, hs3⟩
    have zhx := Zn.of hx
    replace hw := OwnI.same hw hs3
    have n3 := hs3.size
    have S3 : Same w w3 := S2.trans hs3
    clear hs3 S2
    go_wp2_with fail
    refine (iMonthly_any _ _ L y _ hzL (OwnR.recs cBracket_len hx)).mono ?_
    rw [← HP.out]
    rintro e w4 ⟨A4_, c4_, rfl, hg, hs4⟩
    have zhg := Zn.of hg
    replace hw := OwnI.same hw hs4
    replace hx := OwnR.same hx hs4
    have n4 := hs4.size
    have S4 : Same w w4 := S3.trans hs4
    clear hs4 S3
    go_wp2_with fail
    refine (eqIntS_any _ _ _ _ P P _ hzP hzP (OwnI.ints hg) (OwnI.ints hw)).mono ?_
    rintro e w5 ⟨rfl, hs5⟩
    replace hw := OwnI.drew hw hs5
    replace hx := OwnR.drew hx hs5
    replace hg := OwnI.drew hg hs5
    have n5 := hs5.same.size
    have S5 : Same w w5 := S4.drewed hs5
    clear hs5 S4
    go_wp2_with fail
    refine (toBracketS_any AL cL L _ hlL (hAL.same S5)).mono ?_
    rintro e w6 ⟨rfl, ho1, hs6⟩
    have zho1 := Zn.of ho1
    replace hw := OwnI.same hw hs6
    replace hx := OwnR.same hx hs6
    replace hg := OwnI.same hg hs6
    have n6 := hs6.size
    have S6 : Same w w6 := S5.trans hs6
    clear hs6 S5
    go_wp2_with fail
    refine (eqBracketS_any _ _ _ _ L L _ hzL hzL (OwnR.recs cBracket_len hx) (OwnR.recs cBracket_len ho1)).mono ?_
    rintro e w7 ⟨rfl, hs7⟩
    replace hw := OwnI.same hw hs7
    replace hx := OwnR.same hx hs7
    replace hg := OwnI.same hg hs7
    replace ho1 := OwnR.same ho1 hs7
    have n7 := hs7.size
    have S7 : Same w w7 := S6.trans hs7
    clear hs7 S6
    clear ho1 zho1
    go_wp2_with fail
    refine (markBracketS_any _ _ _ L 1 _ _ rfl (by omega) (by omega) (by omega) hx zhx).mono ?_
    rintro e w8 ⟨rfl, hx9, hu8⟩
    replace hw := OwnI.upd hw hu8 zhw (.inl (by omega))
    replace hg := OwnI.upd hg hu8 zhg (.inr (by omega))
    have n8 := hu8.size
    have S8 : Same w w8 := S7.upds hu8 (by omega)
    clear hu8 S7 hx
    have zhx9 := zhx
    clear zhx
    clear hx9 zhx9
    go_wp2_with fail
    refine (eqIntS_any _ _ _ _ P P _ hzP hzP (OwnI.ints hg) (OwnI.ints hw)).mono ?_
    rintro e w9 ⟨rfl, hs9⟩
    replace hw := OwnI.drew hw hs9
    replace hg := OwnI.drew hg hs9
    have n9 := hs9.same.size
    have S9 : Same w w9 := S8.drewed hs9
    clear hs9 S8
    go_wp2_with fail
    refine (markIntS_any _ _ _ P 1 _ _ rfl (by omega) (by omega) (by omega) hg zhg).mono ?_
    rintro e w10 ⟨rfl, hg9, hu10⟩
    replace hw := OwnI.upd hw hu10 zhw (.inl (by omega))
    have n10 := hu10.size
    have S10 : Same w w10 := S9.upds hu10 (by omega)
    clear hu10 S9 hg
    have zhg9 := zhg
    clear zhg
    go_wp2_with fail
    refine (heldIntS_any _ _ _ 1 _ (by omega) (by omega) (by omega) (OwnI.ints hg9)).mono ?_
    rintro e w11 ⟨rfl, rfl⟩
    have hq : ((1 + (P.length : Int)) != (1 + (P.length : Int))) = false := by simp
    go_wp2_with fail
    refine (toBracketS_any AL cL L _ hlL (hAL.same S10)).mono ?_
    rintro e w11 ⟨rfl, ho2, hs11⟩
    have zho2 := Zn.of ho2
    replace hw := OwnI.same hw hs11
    replace hg9 := OwnI.same hg9 hs11
    have n11 := hs11.size
    have S11 : Same w w11 := S10.trans hs11
    clear hs11 S10
    go_wp2_with fail
    refine (iMonthly_any _ _ L y _ hzL (OwnR.recs cBracket_len ho2)).mono ?_
    rw [← HP.out]
    rintro e w12 ⟨A12_, c12_, rfl, hh, hs12⟩
    have zhh := Zn.of hh
    replace hw := OwnI.same hw hs12
    replace hg9 := OwnI.same hg9 hs12
    replace ho2 := OwnR.same ho2 hs12
    have n12 := hs12.size
    have S12 : Same w w12 := S11.trans hs12
    clear hs12 S11
    clear ho2 zho2
    go_wp2_with fail
    refine (eqIntS_any _ _ _ _ P P _ hzP hzP (OwnI.ints hh) (OwnI.ints hw)).mono ?_
    rintro e w13 ⟨rfl, hs13⟩
    replace hw := OwnI.drew hw hs13
    replace hg9 := OwnI.drew hg9 hs13
    replace hh := OwnI.drew hh hs13
    have n13 := hs13.same.size
    have S13 : Same w w13 := S12.drewed hs13
    clear hs13 S12
    clear hh zhh
    clear hw zhw
    go_wp2_with fail
    refine (heldIntS_any _ _ _ 1 _ (by omega) (by omega) (by omega) (OwnI.ints hg9)).mono ?_
    rintro e w14 ⟨rfl, rfl⟩
    go_wp2_with fail
    go_ret
    exact ⟨rfl, S13⟩
  · go_enter Try.func14, Try.ntmps14
    go_wp2_with fail
    refine (szBracketS_any AL L.length cL 1048576 _ hzL (by omega) (by omega)).mono ?_
    rintro e w0 ⟨rfl, rfl⟩
    rw [if_neg (show ¬ ((L.length : Int) ≤ 1048576) by omega)]
    go_wp2
    go_ret
    exact ⟨rfl, Same.refl _⟩
end Go.Proofs.Ytegcfjnjgklchaa
