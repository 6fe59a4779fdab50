/-
  FnTaxed: for every list of bytes the taxes of the drawn brackets increase with the amount, and by at most the marginal rate. No condition.
-/
import Derived.Test.YtegcfjnjgklchaaLawMTaxes
import Derived.Test.YtegcfjnjgklchaaPlainTax
namespace Go.Proofs.Ytegcfjnjgklchaa
open Go.RowKit

/-- The top rate so far. -/
def TopSoFar (L : List TBracket) (y T : Int) (k : Nat) : Prop := marginal L y ≤ T ∧ 0 ≤ T ∧ T ≤ 1000 ∧ ∀ (j : Nat) (g s : Int), j < k → L[j]? = some (g, s) → y < g → g ≤ y + 1000 → s ≤ T
theorem TopSoFar.yes {L : List TBracket} {y T f r : Int} {k : Nat} (h : TopSoFar L y T k) (hx : L[k]? = some (f, r)) (hr : 0 ≤ r ∧ r ≤ 1000) : TopSoFar L y (if T < r then r else T) (k + 1) := by
  obtain ⟨h1, h2, h3, h4⟩ := h
  refine ⟨by split <;> omega, by split <;> omega, by split <;> omega, fun j g s hj hg a b => ?_⟩
  by_cases e : j = k
  · subst e
    have := Option.some.inj (hx.symm.trans hg)
    simp at this
    split <;> omega
  · have := h4 j g s (by omega) hg a b
    split <;> omega
theorem TopSoFar.no {L : List TBracket} {y T f r : Int} {k : Nat} (h : TopSoFar L y T k) (hx : L[k]? = some (f, r)) (hn : ¬ (y < f ∧ f ≤ y + 1000)) : TopSoFar L y T (k + 1) := by
  obtain ⟨h1, h2, h3, h4⟩ := h
  refine ⟨h1, h2, h3, fun j g s hj hg a b => ?_⟩
  by_cases e : j = k
  · subst e
    have := Option.some.inj (hx.symm.trans hg)
    simp at this
    exact absurd ⟨by omega, by omega⟩ hn
  · exact h4 j g s (by omega) hg a b

set_option maxHeartbeats 1000000 in
theorem lawTaxed (A : Option Addr) (n c : Nat) (w : World) (hn : n ≤ 9223372036854775807) (hA : BytesAt w w.heap.size A n) :
    Calls Try.prog 9 #[.slice A n c] w fun e w' => e = .returned (.bool true) ∧ Same w w' := by
  by_cases hbig : n ≤ 1048576
  · go_enter Try.func9, Try.ntmps9
    go_wp2_with fail
    refine (big_no A n c _ hbig).mono ?_
    rintro e w0 ⟨rfl, rfl⟩
    go_wp2_with fail
    refine (drawBrackets_any A n c _ hbig hA).mono ?_
    rintro e w1 ⟨L, B, d, rfl, hok, ho1, hs1⟩
    go_wp2_with fail
    refine (drawPlaces_any A n c _ hbig (hA.keep' hs1)).mono ?_
    rintro e w2 ⟨ps, D, f, rfl, hpl, ho2, hs2⟩
    obtain ⟨a, ha, ha0, ha1⟩ := hpl.get (k := 0) (by omega)
    obtain ⟨g, rfl, _⟩ := ho2.at_ ha
    have ca := ho2.cell ha
    have hl12 : (12 : Int) ≤ (ps.length : Int) := by have := hpl.1; omega
    clear ha hpl ho2
    have hL := (OwnR.recs cBracket_len ho1).same hs2
    have hS2 := hs1.trans hs2
    clear ho1 hs1 hs2
    have hlen := brk_len hok
    have hz : L.length ≤ 9223372036854775807 := by omega
    go_wp2_with fail
    obtain ⟨y, hy⟩ : ∃ y, y = a * 200 := ⟨_, rfl⟩
    have hy0 : 0 ≤ y ∧ y ≤ 2000000 := by omega
    rw [← hy]
    clear hy ca ha0 ha1
    have htx := valid_taxed hok (y := y) (by omega) (by omega)
    obtain ⟨t, ht⟩ : ∃ t, t = taxFor L y := ⟨_, rfl⟩
    obtain ⟨u, hu⟩ : ∃ u, u = taxFor L (y + 1000) := ⟨_, rfl⟩
    obtain ⟨r, hr⟩ : ∃ r, r = marginal L y := ⟨_, rfl⟩
    obtain ⟨s, hs⟩ : ∃ s, s = marginal L (y + 1000) := ⟨_, rfl⟩
    have hrr := marginal_range (y := y) hok
    have hsr := marginal_range (y := y + 1000) hok
    rw [← hr] at hrr
    rw [← hs] at hsr
    obtain ⟨ht0, ht1, ht2⟩ := taxFor_range (L := L) (y := y)
    have ht3 := ht2 htx
    obtain ⟨hu0, hu1, _⟩ := taxFor_range (L := L) (y := y + 1000)
    rw [← ht] at ht0 ht1 ht3
    rw [← hu] at hu0 hu1
    have HN := Lib.hid (show netYear L y = y - t by rw [netYear, if_pos htx, ht])
    have HT := Lib.hid ht
    have HU := Lib.hid hu
    have HR := Lib.hid hr
    have HS := Lib.hid hs
    have HOK := Lib.hid hok
    clear ht hu hr hs htx ht2
    refine (iTaxFor_any B d L y _ hz hL).mono ?_
    rintro e w3 ⟨rfl, hs3⟩
    rw [← HT.out]
    replace hL := hL.same hs3
    have hS3 := hS2.trans hs3
    clear hs3 hS2
    go_wp2_with fail
    refine (iTaxFor_any B d L (y + 1000) _ hz hL).mono ?_
    rintro e w4 ⟨rfl, hs4⟩
    rw [← HU.out]
    replace hL := hL.same hs4
    have hS4 := hS3.trans hs4
    clear hs4 hS3
    go_wp2_with fail
    refine (iMarginal_any B d L y _ hz hL).mono ?_
    rintro e w5 ⟨rfl, hs5⟩
    rw [← HR.out]
    replace hL := hL.same hs5
    have hS5 := hS4.trans hs5
    clear hs5 hS4
    go_wp2_with fail
    refine (iMarginal_any B d L (y + 1000) _ hz hL).mono ?_
    rintro e w6 ⟨rfl, hs6⟩
    rw [← HS.out]
    replace hL := hL.same hs6
    have hS6 := hS5.trans hs6
    clear hs6 hS5
    go_wp2
    all_goals
      go_loop [10, 11] (fun T i => ∃ (k : Nat) (x : Int), k ≤ L.length ∧ i = .int .i64 k ∧ T = .int .i64 x ∧ TopSoFar L y x k) (fun _ i => L.length - (intOf i).toNat)
      case atStart => exact ⟨0, _, Nat.zero_le _, rfl, rfl, by rw [← HR.out]; first | omega | (split <;> omega), by first | omega | (split <;> omega), by first | omega | (split <;> omega), fun j g s hj => absurd hj (Nat.not_lt_zero _)⟩
      case round =>
        obtain ⟨k, x, hk, rfl, rfl, hT⟩ := hrel
        by_cases hlt : k < L.length
        · obtain ⟨b, off, z, rfl, hc, HX, _⟩ := hL.at_ hlt
          clear hL
          obtain ⟨f, q⟩ := z
          have c0 := hc 0 _ rfl
          have c1 := hc 1 _ rfl
          simp only [Nat.add_zero] at c0
          clear hc
          have hq := (brk_range HOK.out HX.out).2
          by_cases hf : y < f
          · by_cases hf2 : f ≤ y + 1000
            · go_wp2
              all_goals go_round
              case rel => exact ⟨k + 1, _, hlt, by go_num, rfl, hT.yes HX.out hq⟩
              case measure => simp [intOf]; omega
            · go_wp2
              go_round
              case rel => exact ⟨k + 1, _, hlt, by go_num, rfl, hT.no HX.out (by omega)⟩
              case measure => simp [intOf]; omega
          · go_wp2
            go_round
            case rel => exact ⟨k + 1, _, hlt, by go_num, rfl, hT.no HX.out (by omega)⟩
            case measure => simp [intOf]; omega
        · obtain rfl : k = L.length := by omega
          obtain ⟨a1, a2, a3, a4⟩ := hT
          have hd := taxFor_diff HOK.out hy0.1 (by omega) a2 a1 (fun j g s hj => a4 j g s (List.getElem?_eq_some_iff.1 hj).1 hj)
          rw [← HT.out, ← HU.out] at hd
          obtain ⟨d1, d2⟩ := hd
          clear hlt a1 a4
          have hq : (y - t == y - t) = true := by simp
          go_wp2_with fail
          refine (iNetYear_any B d L y _ hz hL).mono ?_
          rintro e w7 ⟨rfl, hs7⟩
          rw [HN.out]
          go_wp2_with fail
          refine (iBracketsOk_any B d L _ hz (hL.same hs7)).mono ?_
          rintro e w8 ⟨rfl, hs8⟩
          rw [show bracketsOk L = true from HOK.out]
          go_wp2_with fail
          go_ret
          exact ⟨by first | rfl | simp, (hS6.trans hs7).trans hs8⟩
  · go_enter Try.func9, Try.ntmps9
    go_wp2_with (go_at_call 30; refine (big_yes A n c _ hn hbig).mono ?_; rintro e w' ⟨rfl, rfl⟩)
    go_ret
    exact ⟨rfl, Same.refl _⟩
end Go.Proofs.Ytegcfjnjgklchaa
