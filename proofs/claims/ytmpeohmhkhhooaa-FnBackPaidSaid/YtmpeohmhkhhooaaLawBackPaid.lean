/-
  FnBackPaid: for every list of bytes, of the drawn corrections the back pay without interest less the overpayments without a horizon is the net correction. No condition.
-/
import Derived.Test.YtmpeohmhkhhooaaDrawCorr
import Derived.Test.YtmpeohmhkhhooaaCorrSum
namespace Go.Proofs.Ytmpeohmhkhhooaa
open Go.RowKit

theorem valid_months {L : List TCorrection} (h : ValidCorrs L) : monthsOk L 2000 = true := by
  rw [monthsOk, Bool.and_eq_true]
  refine ⟨List.all_eq_true.2 fun x hx => ?_, by decide⟩
  have := h.2 x hx
  exact inB_iff.2 (by omega)
theorem valid_amounts {L : List TCorrection} (h : ValidCorrs L) : amountsOk L = true := by
  rw [amountsOk, Bool.and_eq_true]
  refine ⟨List.all_eq_true.2 fun x hx => ?_, decide_eq_true (by have := h.1; omega)⟩
  have := h.2 x hx
  rw [amtOk, Bool.and_eq_true]
  exact ⟨inB_iff.2 (by omega), inB_iff.2 (by omega)⟩
theorem sum_net {L : List TCorrection} (h : ∀ x ∈ L, 0 ≤ x.1 ∧ x.1 ≤ 2000) : ∀ k, k ≤ L.length → sumBy (backG 0 2000) L k - sumBy (overG 0) L k = sumBy netG L k
  | 0, _ => rfl
  | k + 1, hk => by
    obtain ⟨p, hp⟩ : ∃ p, L[k]? = some p := ⟨_, List.getElem?_eq_getElem (by omega)⟩
    have h1 := sum_net h k (by omega)
    have h2 := h p (List.mem_of_getElem? hp)
    rw [sumBy_succ hp, sumBy_succ hp, sumBy_succ hp]
    have h3 : backG 0 2000 p - overG 0 p = netG p := by
      simp only [backG, overG, netG, Int.mul_zero, Int.zero_mul]
      split <;> split <;> omega
    omega
theorem sum_more {L : List TCorrection} {r : Int} (hr : 0 ≤ r) (h : ∀ x ∈ L, 0 ≤ x.1 ∧ x.1 ≤ 2000) : ∀ k, k ≤ L.length → sumBy (backG 0 2000) L k ≤ sumBy (backG r 2000) L k
  | 0, _ => Int.le_refl _
  | k + 1, hk => by
    obtain ⟨p, hp⟩ : ∃ p, L[k]? = some p := ⟨_, List.getElem?_eq_getElem (by omega)⟩
    have h1 := sum_more hr h k (by omega)
    rw [sumBy_succ hp, sumBy_succ hp]
    have h3 : backG 0 2000 p ≤ backG r 2000 p := by
      simp only [backG, Int.mul_zero, Int.zero_mul]
      split
      · rename_i hc
        have : 0 ≤ (p.2.2 - p.2.1) * r * (2000 - p.1) := Int.mul_nonneg (Int.mul_nonneg (by omega) hr) (by omega)
        omega
      · omega
    omega
theorem sum_none {L : List TCorrection} (h : ∀ x ∈ L, x.1 < 2000) : ∀ k, k ≤ L.length → sumBy (overG 2000) L k = 0
  | 0, _ => rfl
  | k + 1, hk => by
    obtain ⟨p, hp⟩ : ∃ p, L[k]? = some p := ⟨_, List.getElem?_eq_getElem (by omega)⟩
    have h1 := sum_none h k (by omega)
    have h2 := h p (List.mem_of_getElem? hp)
    rw [sumBy_succ hp, h1, overG, if_neg (by omega)]
    rfl

set_option maxHeartbeats 1000000 in
theorem lawBackPaid (A : Option Addr) (n c : Nat) (w : World) (hn : n ≤ 9223372036854775807) (hA : BytesAt w w.heap.size A n) :
    Calls Try.prog 12 #[.slice A n c] w fun e w' => e = .returned (.bool true) ∧ Same w w' := by
  by_cases hbig : n ≤ 1048576
  · go_enter Try.func12, Try.ntmps12
    go_wp2_with fail
    refine (big_no A n c _ hbig).mono ?_
    rintro e w0 ⟨rfl, rfl⟩
    go_wp2_with fail
    refine (drawCorrections_any A n c _ hbig hA).mono ?_
    rintro e w1 ⟨L, B, d, rfl, hv, ho1, hs1⟩
    go_wp2_with fail
    refine (drawPlaces_any A n c _ hbig (hA.keep' hs1)).mono ?_
    rintro e w2 ⟨ps, D, f, rfl, hpl, ho2, hs2⟩
    obtain ⟨a, ha, ha0, ha1⟩ := hpl.get (k := 0) (by omega)
    obtain ⟨g, rfl, _⟩ := ho2.at_ ha
    have ca := ho2.cell ha
    have hgl := World.block_lt_of_cell? w2 _ ca
    have hl12 : (12 : Int) ≤ (ps.length : Int) := by have := hpl.1; omega
    clear ha hpl ho2
    have hL := (OwnR.recs cCorrection_len ho1).same hs2
    have hS2 := hs1.trans hs2
    clear ho1 hs1 hs2
    have hz : L.length ≤ 9223372036854775807 := by have := hv.1; omega
    have hm := valid_months hv
    have hma := valid_amounts hv
    have h2000 : ∀ x ∈ L, 0 ≤ x.1 ∧ x.1 ≤ 2000 := fun x hx => by have := hv.2 x hx; omega
    obtain ⟨s, hs⟩ : ∃ s, s = sumBy (backG 0 2000) L L.length := ⟨_, rfl⟩
    obtain ⟨o, ho⟩ : ∃ o, o = sumBy (overG 0) L L.length := ⟨_, rfl⟩
    have HS := Lib.hid (show backPay L 0 2000 = s by simp [backPay, hm, hma, hs, inB])
    have HO := Lib.hid (show overpaid L 2000 2000 = o by simp [overpaid, hm, hma, ho, inB])
    have HN := Lib.hid (show netOf L = s - o by rw [netOf, if_pos hma, hs, ho]; exact (sum_net h2000 _ (Nat.le_refl _)).symm)
    have HZ := Lib.hid (show overpaid L 2000 0 = 0 by simp only [overpaid, hm, hma]; exact sum_none (fun x hx => by have := hv.2 x hx; omega) _ (Nat.le_refl _))
    have hsr : -362400000000 ≤ s ∧ s ≤ 362400000000 := by rw [hs]; exact back_range hm hma (by decide) (Nat.le_refl _)
    have hor : -2400000000 ≤ o ∧ o ≤ 2400000000 := by rw [ho]; exact over_range hma (Nat.le_refl _)
    have hq0 : 0 ≤ a % 100 ∧ a % 100 < 100 := by omega
    obtain ⟨r, hr⟩ : ∃ r, r = 1 + a % 100 := ⟨_, rfl⟩
    have hrr : 1 ≤ r ∧ r ≤ 100 := by omega
    obtain ⟨m, hmo⟩ : ∃ m, m = backPay L r 2000 := ⟨_, rfl⟩
    have hms : s ≤ m := by
      rw [hmo, hs]
      simp only [backPay, hm, hma, show inB r 0 500 = true from inB_iff.2 (by omega)]
      exact sum_more (by omega) h2000 _ (Nat.le_refl _)
    have HM := Lib.hid hmo
    clear hmo hs ho hm hma h2000 hv
    go_wp2_with fail
    refine (iBackPay_any B d L 0 2000 _ hz hL).mono ?_
    rw [HS.out]
    rintro e w3 ⟨rfl, hs3⟩
    have ca3 := (hs3.cell (p := ⟨g, 0, none⟩) hgl).trans ca
    have hgl3 := World.block_lt_of_cell? w3 _ ca3
    replace hL := hL.same hs3
    have hS3 := hS2.trans hs3
    clear hs3 hS2 ca hgl
    go_wp2_with fail
    refine (iOverpaid_any B d L 2000 2000 _ hz hL).mono ?_
    rw [HO.out]
    rintro e w4 ⟨rfl, hs4⟩
    have ca4 := (hs4.cell (p := ⟨g, 0, none⟩) hgl3).trans ca3
    replace hL := hL.same hs4
    have hS4 := hS3.trans hs4
    clear hs4 hS3 ca3 hgl3
    go_wp2_with fail
    rw [← hr]
    refine (iBackPay_any B d L r 2000 _ hz hL).mono ?_
    rw [← HM.out]
    rintro e w5 ⟨rfl, hs5⟩
    replace hL := hL.same hs5
    have hS5 := hS4.trans hs5
    clear hs5 hS4 ca4
    go_wp2_with fail
    refine (sBackPay_any B d L 0 2000 _ hz hL).mono ?_
    rw [HS.out]
    rintro e w6 ⟨rfl, hs6⟩
    replace hL := hL.same hs6
    have hS6 := hS5.trans hs6
    clear hs6 hS5
    have b1 : (s == s) = true := by simp
    go_wp2_with fail
    refine (iNetOf_any B d L _ hz hL).mono ?_
    rw [HN.out]
    rintro e w7 ⟨rfl, hs7⟩
    replace hL := hL.same hs7
    have hS7 := hS6.trans hs7
    clear hs7 hS6
    have b2 : (s - o == s - o) = true := by simp
    go_wp2_with fail
    refine (iOverpaid_any B d L 2000 0 _ hz hL).mono ?_
    rw [HZ.out]
    rintro e w8 ⟨rfl, hs8⟩
    go_wp2_with fail
    go_ret
    exact ⟨rfl, hS7.trans hs8⟩
  · go_enter Try.func12, Try.ntmps12
    go_wp2_with (go_at_call 30; refine (big_yes A n c _ hn hbig).mono ?_; rintro e w' ⟨rfl, rfl⟩)
    go_ret
    exact ⟨rfl, Same.refl _⟩
end Go.Proofs.Ytmpeohmhkhhooaa
