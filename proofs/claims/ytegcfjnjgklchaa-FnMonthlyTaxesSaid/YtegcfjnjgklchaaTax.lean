/-
  The contracts of MarginalRate, TaxFor and NetYear.
-/
import Derived.Test.YtegcfjnjgklchaaBrkOk
namespace Go.Proofs.Ytegcfjnjgklchaa
open Go.RowKit

theorem wrap_term {S m r : Int} (h0 : 0 ≤ S) (h1 : S ≤ 1000000000000000) (h2 : 0 ≤ m * r) (h3 : m * r ≤ 1000000000000) : wrap64 (S + wrap64 (m * r)) = S + m * r := by
  rw [IntWalk.wrap64_in (m * r) ⟨by omega, by omega⟩, IntWalk.wrap64_in _ ⟨by omega, by omega⟩]

theorem taxed_and {L : List TBracket} {y : Int} (h : taxed L y = true) : bracketsOk L = true ∧ 0 ≤ y ∧ y ≤ 1000000000 := by
  simp only [taxed, Bool.and_eq_true, inB_iff] at h
  exact h

set_option maxHeartbeats 1000000 in
theorem sMarginal_any (A : Option Addr) (c : Nat) (L : List TBracket) (y : Int) (w : World) (hz : L.length ≤ 9223372036854775807) (hA : AtBracket w A L) :
    Calls Try.prog 26 #[.slice A L.length c, .int .i64 y] w fun e w' => e = .returned (.int .i64 (marginal L y)) ∧ Same w w' := by
  cases h : taxed L y
  · have HF := Lib.hid (show (0 : Int) = marginal L y by simp [marginal, h])
    have H := Lib.hid h
    clear h
    go_enter Try.func26, Try.ntmps26
    go_wp2
    go_loopw [5, 6] (fun s i wr => i = .int .i64 0 ∧ s = .int .i64 0 ∧ Same w wr) (fun _ _ _ => 0)
    case atStart => exact ⟨rfl, rfl, Same.refl _⟩
    case round =>
      obtain ⟨rfl, rfl, hs⟩ := hrel
      by_cases hlt : 0 < L.length
      · go_wp2_with fail
        refine (sTaxed_any _ c L y _ hz (hA.same hs)).mono ?_
        rintro e w1 ⟨rfl, hs1⟩
        rw [H.out]
        go_wp2
        go_ret
        exact ⟨ret_int HF.out, hs.trans hs1⟩
      · go_wp2
        go_ret
        exact ⟨ret_int HF.out, hs⟩
  · have HF := Lib.hid (show marginal L y = rateTo L y L.length by simp [marginal, h])
    have H := Lib.hid h
    clear h
    go_enter Try.func26, Try.ntmps26
    go_wp2
    go_loopw [5, 6] (fun s i wr => ∃ k : Nat, k ≤ L.length ∧ i = .int .i64 k ∧ s = .int .i64 (rateTo L y k) ∧ Same w wr) (fun _ i _ => L.length - (intOf i).toNat)
    case atStart => exact ⟨0, Nat.zero_le _, rfl, rfl, Same.refl _⟩
    case round =>
      obtain ⟨k, hk, rfl, rfl, hs⟩ := hrel
      by_cases hlt : k < L.length
      · go_wp2_with fail
        refine (sTaxed_any _ c L y _ hz (hA.same hs)).mono ?_
        rintro e w1 ⟨rfl, hs1⟩
        rw [H.out]
        obtain ⟨b, off, x, rfl, hc, HX, _⟩ := ((hA.same hs).same hs1).at_ hlt
        have hss := hs.trans hs1
        clear hA hs hs1
        obtain ⟨f, r⟩ := x
        have c0 := hc 0 _ rfl
        have c1 := hc 1 _ rfl
        simp only [Nat.add_zero] at c0
        clear hc
        by_cases hfy : f ≤ y
        · go_wp2
          go_roundw
          case rel => exact ⟨k + 1, hlt, by go_num, by rw [rateTo_yes HX.out hfy], hss⟩
          case measure => simp [intOf]; omega
        · go_wp2
          go_roundw
          case rel => exact ⟨k + 1, hlt, by go_num, by rw [rateTo_no HX.out (by omega)], hss⟩
          case measure => simp [intOf]; omega
      · go_wp2
        go_ret
        exact ⟨ret_int (by rw [HF.out, show L.length = k by omega]), hs⟩

set_option maxHeartbeats 1000000 in
theorem iMarginal_any (A : Option Addr) (c : Nat) (L : List TBracket) (y : Int) (w : World) (hz : L.length ≤ 9223372036854775807) (hA : AtBracket w A L) :
    Calls Try.prog 27 #[.slice A L.length c, .int .i64 y] w fun e w' => e = .returned (.int .i64 (marginal L y)) ∧ Same w w' := by
  cases h : taxed L y
  · have HF := Lib.hid (show (0 : Int) = marginal L y by simp [marginal, h])
    go_enter Try.func27, Try.ntmps27
    go_wp2_with fail
    refine (iTaxed_any _ c L y _ hz hA).mono ?_
    rintro e w1 ⟨rfl, hs1⟩
    rw [h]
    go_wp2
    go_ret
    exact ⟨ret_int HF.out, hs1⟩
  · have HF := Lib.hid (show marginal L y = rateTo L y L.length by simp [marginal, h])
    go_enter Try.func27, Try.ntmps27
    go_wp2_with fail
    refine (iTaxed_any _ c L y _ hz hA).mono ?_
    rintro e w1 ⟨rfl, hs1⟩
    rw [h]
    clear h
    go_wp2
    go_loopw [5, 14] (fun s i wr => ∃ k : Nat, k ≤ L.length ∧ i = .int .i64 k ∧ s = .int .i64 (rateTo L y k) ∧ Same w wr) (fun _ i _ => L.length - (intOf i).toNat)
    case atStart => exact ⟨0, Nat.zero_le _, rfl, rfl, hs1⟩
    case round =>
      obtain ⟨k, hk, rfl, rfl, hs⟩ := hrel
      by_cases hlt : k < L.length
      · obtain ⟨b, off, x, rfl, hc, HX, _⟩ := (hA.same hs).at_ hlt
        clear hA
        obtain ⟨f, r⟩ := x
        have c0 := hc 0 _ rfl
        have c1 := hc 1 _ rfl
        simp only [Nat.add_zero] at c0
        clear hc
        by_cases hfy : f ≤ y
        · go_wp2
          go_roundw
          case rel => exact ⟨k + 1, hlt, by go_num, by rw [rateTo_yes HX.out hfy], hs.alloc _⟩
          case measure => simp [intOf]; omega
        · go_wp2
          go_roundw
          case rel => exact ⟨k + 1, hlt, by go_num, by rw [rateTo_no HX.out (by omega)], hs.alloc _⟩
          case measure => simp [intOf]; omega
      · go_wp2
        go_ret
        exact ⟨ret_int (by rw [HF.out, show L.length = k by omega]), hs⟩

set_option maxHeartbeats 2000000 in
theorem sTaxFor_any (A : Option Addr) (c : Nat) (L : List TBracket) (y : Int) (w : World) (hz : L.length ≤ 9223372036854775807) (hA : AtBracket w A L) :
    Calls Try.prog 28 #[.slice A L.length c, .int .i64 y] w fun e w' => e = .returned (.int .i64 (taxFor L y)) ∧ Same w w' := by
  cases h : taxed L y
  · have HF := Lib.hid (show (0 : Int) = taxFor L y by simp [taxFor, h])
    have H := Lib.hid h
    clear h
    go_enter Try.func28, Try.ntmps28
    go_wp2
    go_loopw [5, 6] (fun s i wr => i = .int .i64 0 ∧ s = .int .i64 0 ∧ Same w wr) (fun _ _ _ => 0)
    case atStart => exact ⟨rfl, rfl, Same.refl _⟩
    case round =>
      obtain ⟨rfl, rfl, hs⟩ := hrel
      by_cases hlt : 0 < L.length
      · go_wp2_with fail
        refine (sTaxed_any _ c L y _ hz (hA.same hs)).mono ?_
        rintro e w1 ⟨rfl, hs1⟩
        rw [H.out]
        go_wp2
        go_ret
        exact ⟨ret_int HF.out, hs.trans hs1⟩
      · go_wp2
        go_ret
        exact ⟨ret_int HF.out, hs⟩
  · have HF := Lib.hid (show taxFor L y = taxTo L y L.length / 1000 by simp [taxFor, h])
    obtain ⟨hok, hy0, hy1⟩ := taxed_and h
    have hl10 := brk_len hok
    have HOK := Lib.hid hok
    have H := Lib.hid h
    clear h hok
    go_enter Try.func28, Try.ntmps28
    go_wp2
    go_loopw [5, 6] (fun s i wr => ∃ k : Nat, k ≤ L.length ∧ i = .int .i64 k ∧ s = .int .i64 (taxTo L y k) ∧ Same w wr) (fun _ i _ => L.length - (intOf i).toNat)
    case atStart => exact ⟨0, Nat.zero_le _, rfl, rfl, Same.refl _⟩
    case round =>
      obtain ⟨k, hk, rfl, rfl, hs⟩ := hrel
      have hT := taxTo_range HOK.out hy1 k hk
      by_cases hlt : k < L.length
      · go_wp2_with fail
        refine (sTaxed_any _ c L y _ hz (hA.same hs)).mono ?_
        rintro e w1 ⟨rfl, hs1⟩
        rw [H.out]
        by_cases hlt2 : k + 1 < L.length
        · obtain ⟨b, off, x, z, rfl, hc, hd, HX, HZ, _⟩ := ((hA.same hs).same hs1).at2 hlt2
          have hss := hs.trans hs1
          clear hA hs hs1
          obtain ⟨f, r⟩ := x
          obtain ⟨nf, nr⟩ := z
          have c0 := hc 0 _ rfl
          have c1 := hc 1 _ rfl
          simp only [Nat.add_zero] at c0
          clear hc
          have d0 := hd 0 _ rfl
          simp only [Nat.add_zero] at d0
          clear hd
          obtain ⟨⟨b1, b2⟩, b3, b4⟩ := brk_range HOK.out HX.out
          obtain ⟨⟨b5, b6⟩, _⟩ := brk_range HOK.out HZ.out
          have HS := Lib.hid (taxTo_succ (y := y) HX.out)
          have HT := Lib.hid (topAt_next (y := y) HZ.out)
          have hfn := brk_lt HOK.out HX.out HZ.out
          by_cases hny : nf < y
          · have ht := taxTerm_range (f := f) (r := r) (top := nf) b1 b3 b4 b6
            rw [if_pos hfn] at ht
            go_wp2
            go_quiet (fail)
            go_wp2
            go_roundw
            case rel =>
              refine ⟨k + 1, hlt, by go_num, ?_, hss.drewN _⟩
              rw [HS.out, HT.out, if_pos hny, if_pos hfn] <;> simp
            case measure => simp [intOf]; omega
          · by_cases hft : f < y
            · have ht := taxTerm_range (f := f) (r := r) (top := y) b1 b3 b4 hy1
              rw [if_pos hft] at ht
              go_wp2
              go_quiet (fail)
              go_wp2
              go_roundw
              case rel =>
                refine ⟨k + 1, hlt, by go_num, ?_, hss.drewN _⟩
                rw [HS.out, HT.out, if_neg (show ¬ nf < y by omega), if_pos hft] <;> simp
              case measure => simp [intOf]; omega
            · have ht := taxTerm_range (f := f) (r := r) (top := y) b1 b3 b4 hy1
              rw [if_neg (show ¬ f < y by omega)] at ht
              go_wp2
              go_quiet (fail)
              go_wp2
              go_roundw
              case rel =>
                refine ⟨k + 1, hlt, by go_num, ?_, hss.drewN _⟩
                rw [HS.out, HT.out, if_neg (show ¬ nf < y by omega), if_neg (show ¬ f < y by omega)] <;> simp
              case measure => simp [intOf]; omega
        · obtain ⟨b, off, x, rfl, hc, HX, _⟩ := ((hA.same hs).same hs1).at_ hlt
          have hss := hs.trans hs1
          clear hA hs hs1
          obtain ⟨f, r⟩ := x
          have c0 := hc 0 _ rfl
          have c1 := hc 1 _ rfl
          simp only [Nat.add_zero] at c0
          clear hc
          obtain ⟨⟨b1, b2⟩, b3, b4⟩ := brk_range HOK.out HX.out
          have HS := Lib.hid (taxTo_succ (y := y) HX.out)
          have HT := Lib.hid (topAt_last (y := y) hlt2)
          by_cases hft : f < y
          · have ht := taxTerm_range (f := f) (r := r) (top := y) b1 b3 b4 hy1
            rw [if_pos hft] at ht
            go_wp2
            go_quiet (fail)
            go_wp2
            go_roundw
            case rel =>
              refine ⟨k + 1, hlt, by go_num, ?_, hss.drewN _⟩
              rw [HS.out, HT.out, if_pos hft] <;> simp
            case measure => simp [intOf]; omega
          · have ht := taxTerm_range (f := f) (r := r) (top := y) b1 b3 b4 hy1
            rw [if_neg (show ¬ f < y by omega)] at ht
            go_wp2
            go_quiet (fail)
            go_wp2
            go_roundw
            case rel =>
              refine ⟨k + 1, hlt, by go_num, ?_, hss.drewN _⟩
              rw [HS.out, HT.out, if_neg (show ¬ f < y by omega)] <;> simp
            case measure => simp [intOf]; omega
      · go_wp2
        go_ret
        exact ⟨ret_int (by rw [HF.out, show L.length = k by omega]), hs⟩

set_option maxHeartbeats 2000000 in
theorem iTaxFor_any (A : Option Addr) (c : Nat) (L : List TBracket) (y : Int) (w : World) (hz : L.length ≤ 9223372036854775807) (hA : AtBracket w A L) :
    Calls Try.prog 29 #[.slice A L.length c, .int .i64 y] w fun e w' => e = .returned (.int .i64 (taxFor L y)) ∧ Same w w' := by
  cases h : taxed L y
  · have HF := Lib.hid (show (0 : Int) = taxFor L y by simp [taxFor, h])
    go_enter Try.func29, Try.ntmps29
    go_wp2_with fail
    refine (iTaxed_any _ c L y _ hz hA).mono ?_
    rintro e w1 ⟨rfl, hs1⟩
    rw [h]
    go_wp2
    go_ret
    exact ⟨ret_int HF.out, hs1⟩
  · have HF := Lib.hid (show taxFor L y = taxTo L y L.length / 1000 by simp [taxFor, h])
    obtain ⟨hok, hy0, hy1⟩ := taxed_and h
    have hl10 := brk_len hok
    have HOK := Lib.hid hok
    clear hok
    go_enter Try.func29, Try.ntmps29
    go_wp2_with fail
    refine (iTaxed_any _ c L y _ hz hA).mono ?_
    rintro e w1 ⟨rfl, hs1⟩
    rw [h]
    clear h
    go_wp2
    go_loopw [5, 15] (fun s i wr => ∃ k : Nat, k ≤ L.length ∧ i = .int .i64 k ∧ s = .int .i64 (taxTo L y k) ∧ Same w wr) (fun _ i _ => L.length - (intOf i).toNat)
    case atStart => exact ⟨0, Nat.zero_le _, rfl, rfl, hs1⟩
    case round =>
      obtain ⟨k, hk, rfl, rfl, hs⟩ := hrel
      have hT := taxTo_range HOK.out hy1 k hk
      by_cases hlt : k < L.length
      · by_cases hlt2 : k + 1 < L.length
        · obtain ⟨b, off, x, z, rfl, hc, hd, HX, HZ, hbl⟩ := (hA.same hs).at2 hlt2
          clear hA
          obtain ⟨f, r⟩ := x
          obtain ⟨nf, nr⟩ := z
          have c0 := hc 0 _ rfl
          have c1 := hc 1 _ rfl
          simp only [Nat.add_zero] at c0
          clear hc
          have d0 := hd 0 _ rfl
          simp only [Nat.add_zero] at d0
          clear hd
          obtain ⟨⟨b1, b2⟩, b3, b4⟩ := brk_range HOK.out HX.out
          obtain ⟨⟨b5, b6⟩, _⟩ := brk_range HOK.out HZ.out
          have HS := Lib.hid (taxTo_succ (y := y) HX.out)
          have HT := Lib.hid (topAt_next (y := y) HZ.out)
          have hfn := brk_lt HOK.out HX.out HZ.out
          by_cases hny : nf < y
          · have ht := taxTerm_range (f := f) (r := r) (top := nf) b1 b3 b4 b6
            rw [if_pos hfn] at ht
            go_wp2
            go_roundw
            case rel =>
              refine ⟨k + 1, hlt, by go_num, ?_, hs.alloc _⟩
              rw [HS.out, HT.out, if_pos hny, if_pos hfn] <;> simp
            case measure => simp [intOf]; omega
          · by_cases hft : f < y
            · have ht := taxTerm_range (f := f) (r := r) (top := y) b1 b3 b4 hy1
              rw [if_pos hft] at ht
              go_wp2
              go_roundw
              case rel =>
                refine ⟨k + 1, hlt, by go_num, ?_, hs.alloc _⟩
                rw [HS.out, HT.out, if_neg (show ¬ nf < y by omega), if_pos hft] <;> simp
              case measure => simp [intOf]; omega
            · have ht := taxTerm_range (f := f) (r := r) (top := y) b1 b3 b4 hy1
              rw [if_neg (show ¬ f < y by omega)] at ht
              go_wp2
              go_roundw
              case rel =>
                refine ⟨k + 1, hlt, by go_num, ?_, hs.alloc _⟩
                rw [HS.out, HT.out, if_neg (show ¬ nf < y by omega), if_neg (show ¬ f < y by omega)] <;> simp
              case measure => simp [intOf]; omega
        · obtain ⟨b, off, x, rfl, hc, HX, _⟩ := (hA.same hs).at_ hlt
          clear hA
          obtain ⟨f, r⟩ := x
          have c0 := hc 0 _ rfl
          have c1 := hc 1 _ rfl
          simp only [Nat.add_zero] at c0
          clear hc
          obtain ⟨⟨b1, b2⟩, b3, b4⟩ := brk_range HOK.out HX.out
          have HS := Lib.hid (taxTo_succ (y := y) HX.out)
          have HT := Lib.hid (topAt_last (y := y) hlt2)
          by_cases hft : f < y
          · have ht := taxTerm_range (f := f) (r := r) (top := y) b1 b3 b4 hy1
            rw [if_pos hft] at ht
            go_wp2
            go_roundw
            case rel =>
              refine ⟨k + 1, hlt, by go_num, ?_, hs.alloc _⟩
              rw [HS.out, HT.out, if_pos hft] <;> simp
            case measure => simp [intOf]; omega
          · have ht := taxTerm_range (f := f) (r := r) (top := y) b1 b3 b4 hy1
            rw [if_neg (show ¬ f < y by omega)] at ht
            go_wp2
            go_roundw
            case rel =>
              refine ⟨k + 1, hlt, by go_num, ?_, hs.alloc _⟩
              rw [HS.out, HT.out, if_neg (show ¬ f < y by omega)] <;> simp
            case measure => simp [intOf]; omega
      · go_wp2
        go_ret
        exact ⟨ret_int (by rw [HF.out, show L.length = k by omega]), hs⟩
end Go.Proofs.Ytegcfjnjgklchaa
