/-
  The contracts of NetYear and MonthlyTax.
-/
import Derived.Test.YtegcfjnjgklchaaTax
import Derived.Test.YtegcfjnjgklchaaSpread
namespace Go.Proofs.Ytegcfjnjgklchaa
open Go.RowKit

set_option maxHeartbeats 400000 in
theorem sNetYear_any (A : Option Addr) (c : Nat) (L : List TBracket) (y : Int) (w : World) (hz : L.length ≤ 9223372036854775807) (hA : AtBracket w A L) :
    Calls Try.prog 38 #[.slice A L.length c, .int .i64 y] w fun e w' => e = .returned (.int .i64 (netYear L y)) ∧ Same w w' := by
  cases h : taxed L y
  · have HF := Lib.hid (show (0 : Int) = netYear L y by simp [netYear, h])
    go_enter Try.func38, Try.ntmps38
    go_wp2_with fail
    refine (sTaxed_any _ c L y _ hz hA).mono ?_
    rintro e w1 ⟨rfl, hs1⟩
    rw [h]
    go_wp2
    go_ret
    exact ⟨ret_int HF.out, hs1⟩
  · have HF := Lib.hid (show y - taxFor L y = netYear L y by simp [netYear, h])
    obtain ⟨_, hy0, hy1⟩ := taxed_and h
    obtain ⟨ht0, ht1, _⟩ := taxFor_range (L := L) (y := y)
    go_enter Try.func38, Try.ntmps38
    go_wp2_with fail
    refine (sTaxed_any _ c L y _ hz hA).mono ?_
    rintro e w1 ⟨rfl, hs1⟩
    rw [h]
    go_wp2_with fail
    refine (sTaxFor_any _ c L y _ hz (hA.same hs1)).mono ?_
    rintro e w2 ⟨rfl, hs2⟩
    go_wp2
    go_ret
    exact ⟨ret_int HF.out, hs1.trans hs2⟩

set_option maxHeartbeats 400000 in
theorem iNetYear_any (A : Option Addr) (c : Nat) (L : List TBracket) (y : Int) (w : World) (hz : L.length ≤ 9223372036854775807) (hA : AtBracket w A L) :
    Calls Try.prog 34 #[.slice A L.length c, .int .i64 y] w fun e w' => e = .returned (.int .i64 (netYear L y)) ∧ Same w w' := by
  cases h : taxed L y
  · have HF := Lib.hid (show (0 : Int) = netYear L y by simp [netYear, h])
    go_enter Try.func34, Try.ntmps34
    go_wp2_with fail
    refine (iTaxed_any _ c L y _ hz hA).mono ?_
    rintro e w1 ⟨rfl, hs1⟩
    rw [h]
    go_wp2
    go_ret
    exact ⟨ret_int HF.out, hs1⟩
  · have HF := Lib.hid (show y - taxFor L y = netYear L y by simp [netYear, h])
    obtain ⟨_, hy0, hy1⟩ := taxed_and h
    obtain ⟨ht0, ht1, _⟩ := taxFor_range (L := L) (y := y)
    go_enter Try.func34, Try.ntmps34
    go_wp2_with fail
    refine (iTaxed_any _ c L y _ hz hA).mono ?_
    rintro e w1 ⟨rfl, hs1⟩
    rw [h]
    go_wp2_with fail
    refine (iTaxFor_any _ c L y _ hz (hA.same hs1)).mono ?_
    rintro e w2 ⟨rfl, hs2⟩
    go_wp2
    go_ret
    exact ⟨ret_int HF.out, hs1.trans hs2⟩

set_option maxHeartbeats 400000 in
theorem sMonthly_any (A : Option Addr) (c : Nat) (L : List TBracket) (y : Int) (w : World) (hz : L.length ≤ 9223372036854775807) (hA : AtBracket w A L) :
    Calls Try.prog 43 #[.slice A L.length c, .int .i64 y] w fun e w' => RetI w (monthly L y) e w' := by
  cases h : taxed L y
  · have HF := Lib.hid (show monthly L y = [] by simp [monthly, h])
    go_enter Try.func43, Try.ntmps43
    go_wp2_with fail
    refine (sTaxed_any _ c L y _ hz hA).mono ?_
    rintro e w1 ⟨rfl, hs1⟩
    rw [h]
    go_wp2
    go_ret
    rw [HF.out]
    exact RetI.of (OwnI.empty _ hs1.size) (hs1.alloc _)
  · have HF := Lib.hid (show monthly L y = spreadTo (taxFor L y) 12 by simp [monthly, h])
    obtain ⟨ht0, ht1, _⟩ := taxFor_range (L := L) (y := y)
    go_enter Try.func43, Try.ntmps43
    go_wp2_with fail
    refine (sTaxed_any _ c L y _ hz hA).mono ?_
    rintro e w1 ⟨rfl, hs1⟩
    rw [h]
    go_wp2_with fail
    refine (sTaxFor_any _ c L y _ hz (hA.same hs1)).mono ?_
    rintro e w2 ⟨rfl, hs2⟩
    go_wp2_with fail
    refine (sSpread_any _ _ ht0 ht1).mono ?_
    rintro e w3 ⟨B, d, rfl, ho3, hs3⟩
    have hss := (hs1.trans hs2).trans hs3
    have ho := ho3.base (hs1.trans hs2).size
    go_wp2
    go_ret
    rw [HF.out]
    exact RetI.of ho hss

set_option maxHeartbeats 400000 in
theorem iMonthly_any (A : Option Addr) (c : Nat) (L : List TBracket) (y : Int) (w : World) (hz : L.length ≤ 9223372036854775807) (hA : AtBracket w A L) :
    Calls Try.prog 33 #[.slice A L.length c, .int .i64 y] w fun e w' => RetI w (monthly L y) e w' := by
  cases h : taxed L y
  · have HF := Lib.hid (show monthly L y = [] by simp [monthly, h])
    go_enter Try.func33, Try.ntmps33
    go_wp2_with fail
    refine (iTaxed_any _ c L y _ hz hA).mono ?_
    rintro e w1 ⟨rfl, hs1⟩
    rw [h]
    go_wp2
    go_ret
    rw [HF.out]
    exact RetI.of (OwnI.nil _ _) hs1
  · have HF := Lib.hid (show monthly L y = spreadTo (taxFor L y) 12 by simp [monthly, h])
    obtain ⟨ht0, ht1, _⟩ := taxFor_range (L := L) (y := y)
    go_enter Try.func33, Try.ntmps33
    go_wp2_with fail
    refine (iTaxed_any _ c L y _ hz hA).mono ?_
    rintro e w1 ⟨rfl, hs1⟩
    rw [h]
    go_wp2_with fail
    refine (iTaxFor_any _ c L y _ hz (hA.same hs1)).mono ?_
    rintro e w2 ⟨rfl, hs2⟩
    go_wp2_with fail
    refine (iSpread_any _ _ ht0 ht1).mono ?_
    rintro e w3 ⟨B, d, rfl, ho3, hs3⟩
    have hss := (hs1.trans hs2).trans hs3
    have ho := ho3.base (hs1.trans hs2).size
    go_wp2
    go_ret
    rw [HF.out]
    exact RetI.of ho hss
end Go.Proofs.Ytegcfjnjgklchaa
