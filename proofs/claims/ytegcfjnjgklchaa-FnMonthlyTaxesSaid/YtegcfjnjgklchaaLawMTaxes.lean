/-
  FnMonthlyTaxes: for every list of bytes the monthly taxes of the drawn brackets add up to the yearly tax. No condition.
-/
import Derived.Test.YtegcfjnjgklchaaDrawBrk
import Derived.Test.YtegcfjnjgklchaaTax2
namespace Go.Proofs.Ytegcfjnjgklchaa
open Go.RowKit

theorem valid_taxed {L : List TBracket} {y : Int} (h : ValidBrks L) (h0 : 0 ≤ y) (h1 : y ≤ 1000000000) : taxed L y = true := by
  rw [taxed, show bracketsOk L = true from h]; simp [inB]; omega

set_option maxHeartbeats 1000000 in
theorem lawMTaxes (A : Option Addr) (n c : Nat) (w : World) (hn : n ≤ 9223372036854775807) (hA : BytesAt w w.heap.size A n) :
    Calls Try.prog 8 #[.slice A n c] w fun e w' => e = .returned (.bool true) ∧ Same w w' := by
  by_cases hbig : n ≤ 1048576
  · go_enter Try.func8, Try.ntmps8
    go_wp2_with fail
    refine (big_no A n c _ hbig).mono ?_
    rintro e w0 ⟨rfl, rfl⟩
    go_wp2_with fail
    refine (drawBrackets_any A n c _ hbig hA).mono ?_
    rintro e w1 ⟨L, B, d, rfl, hok, ho1, hs1⟩
    go_wp2_with fail
    refine (drawPlaces_any A n c _ hbig (hA.keep' hs1)).mono ?_
    rintro e w2 ⟨ps, D, f, rfl, hpl, ho2, hs2⟩
    obtain ⟨a, ha, ha0, ha1⟩ := hpl.get (k := 0) (by omega)
    obtain ⟨g, rfl, _⟩ := ho2.at_ ha
    have ca := ho2.cell ha
    have hl12 : (12 : Int) ≤ (ps.length : Int) := by have := hpl.1; omega
    clear ha hpl ho2
    have hL := (OwnR.recs cBracket_len ho1).same hs2
    have hS2 := hs1.trans hs2
    clear ho1 hs1 hs2
    have hlen := brk_len hok
    have hz : L.length ≤ 9223372036854775807 := by omega
    have htx := valid_taxed hok (y := a * 200) (by omega) (by omega)
    obtain ⟨t, ht⟩ : ∃ t, t = taxFor L (a * 200) := ⟨_, rfl⟩
    obtain ⟨ht0, ht1, _⟩ := taxFor_range (L := L) (y := a * 200)
    rw [← ht] at ht0 ht1
    have HM := Lib.hid (show monthly L (a * 200) = spreadTo t 12 by rw [monthly, if_pos htx, ht])
    have HT := Lib.hid ht
    clear ht htx
    go_wp2_with fail
    refine (iMonthly_any B d L (a * 200) _ hz hL).mono ?_
    rw [HM.out]
    rintro e w3 ⟨M, mc, rfl, hm3, hs3⟩
    have hL3 := hL.same hs3
    have hS3 := hS2.trans hs3
    have hI := hm3.ints
    clear hm3 hs3 hL hS2
    rw [spreadTo_length]
    go_wp2
    go_loop [7, 8] (fun s i => ∃ k : Nat, k ≤ 12 ∧ i = .int .i64 k ∧ s = .int .i64 ((k : Int) * t / 12)) (fun _ i => (12 - intOf i).toNat)
    case atStart => exact ⟨0, by omega, rfl, by simp⟩
    case round =>
      obtain ⟨k, hk, rfl, rfl⟩ := hrel
      have hm0 := spread_mul (j := k) ht0 ht1 (by omega)
      by_cases hlt : k < 12
      · have hm1 := spread_mul (j := k + 1) ht0 ht1 (by omega)
        have hst := spread_sum t 12 (k + 1) (by omega)
        obtain ⟨b, off, x, rfl, hcx, HX, _⟩ := hI.at_ (k := k) (by rw [spreadTo_length]; exact hlt)
        rw [sumTo_succ HX.out, spread_sum t 12 k (by omega)] at hst
        clear hI
        have HS := Lib.hid hst
        have hx0 : 0 ≤ (k : Int) * t / 12 + x ∧ (k : Int) * t / 12 + x ≤ 12000000000 := by rw [hst]; omega
        clear hst
        go_wp2
        go_round
        case rel => exact ⟨k + 1, by omega, by go_num, by rw [HS.out]⟩
        case measure => simp [intOf]; omega
      · obtain rfl : k = 12 := by omega
        clear hI hlt
        have he : ((12 : Int) * t / 12 == t) = true := by simp
        have h12 : ((12 : Nat) : Int) * t / 12 = t := by omega
        rw [h12]
        have hq : (t == t) = true := by simp
        go_wp2_with fail
        refine (iTaxFor_any B d L (a * 200) _ hz hL3).mono ?_
        rintro e w4 ⟨rfl, hs4⟩
        rw [← HT.out]
        go_wp2_with fail
        go_ret
        exact ⟨by first | rfl | simp, hS3.trans hs4⟩
  · go_enter Try.func8, Try.ntmps8
    go_wp2_with (go_at_call 30; refine (big_yes A n c _ hn hbig).mono ?_; rintro e w' ⟨rfl, rfl⟩)
    go_ret
    exact ⟨rfl, Same.refl _⟩
end Go.Proofs.Ytegcfjnjgklchaa
