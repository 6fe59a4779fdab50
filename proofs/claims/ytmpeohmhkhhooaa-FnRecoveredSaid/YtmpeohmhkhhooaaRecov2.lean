/-
  The contracts of Waived, RecoveredBy and NetAmounts.
-/
import Derived.Test.YtmpeohmhkhhooaaRecov
import Derived.Deep.RegionHeld3
namespace Go.Proofs.Ytmpeohmhkhhooaa
open Go.RowKit

set_option maxHeartbeats 2000000 in
theorem sWaived_any (debt : Int) (A : Option Addr) (c : Nat) (zs : List Int) (pct : Int) (w : World) (hz : zs.length ≤ 9223372036854775807) (hA : IntsAt w A zs) :
    Calls Try.prog 24 #[.int .i64 debt, .slice A zs.length c, .int .i64 pct] w fun e w' => e = .returned (.int .i64 (waived debt zs pct)) ∧ Same w w' := by
  cases h : recOk debt zs pct
  · have HF := Lib.hid (show (0 : Int) = waived debt zs pct by simp [waived, h])
    go_enter Try.func24, Try.ntmps24
    go_wp2_with fail
    refine (l24Ask_any debt A c zs pct _ hz hA).mono ?_
    rintro e w1 ⟨rfl, hs1⟩
    rw [h]
    go_wp2
    go_ret
    exact ⟨ret_int HF.out, hs1⟩
  · have HF := Lib.hid (show waived debt zs pct = owed debt zs pct zs.length by simp [waived, h])
    have H := Lib.hid h
    obtain ⟨P, hP⟩ : ∃ P, P = plan debt zs pct := ⟨_, rfl⟩
    have hPl : P.length = zs.length := by rw [hP, plan_yes h, planTo_length]
    have HP := Lib.hid (show ∀ k, k < zs.length → P[k]? = some (min (owed debt zs pct k) (share zs pct k)) from fun k hk => by rw [hP]; exact plan_at h hk)
    have HQ := Lib.hid hP
    obtain ⟨_, ⟨d0, d1⟩, ⟨p0, p1⟩, hlen⟩ := recOk_and h
    go_enter Try.func24, Try.ntmps24
    go_wp2_with fail
    refine (l24Ask_any debt A c zs pct _ hz hA).mono ?_
    rintro e w1 ⟨rfl, hs1⟩
    rw [h]
    clear h hP
    go_wp2_with fail
    refine (sPlan_any debt A c zs pct _ hz (hA.same hs1)).mono ?_
    rw [← HQ.out]
    rintro e w2 ⟨B, d, rfl, ho, hs2⟩
    have hB := ho.ints
    have S2 := hs1.trans hs2
    clear hs1 hs2 ho hA
    go_wp2
    go_loopw [0, 8] (fun d i wr => ∃ k : Nat, k ≤ zs.length ∧ i = .int .i64 k ∧ d = .int .i64 (owed debt zs pct k) ∧ Same w2 wr) (fun _ i _ => zs.length - (intOf i).toNat)
    case atStart => exact ⟨0, Nat.zero_le _, rfl, rfl, Same.refl _⟩
    case round =>
      obtain ⟨k, hk, rfl, rfl, hs⟩ := hrel
      have hr := owed_range H.out k
      by_cases hlt : k < zs.length
      · obtain ⟨b, off, x, rfl, hc, HX, _⟩ := (hB.same hs).at_ (k := k) (by omega)
        clear hB
        have hx : x = min (owed debt zs pct k) (share zs pct k) := Option.some.inj (HX.out.symm.trans (HP.out k hlt))
        have hsr := share_range H.out k
        have HO := Lib.hid (show owed debt zs pct (k + 1) = owed debt zs pct k - x by rw [hx]; rfl)
        have hx' : 0 ≤ x ∧ x ≤ owed debt zs pct k := by omega
        clear hx hsr
        obtain ⟨d, hd⟩ : ∃ d, d = owed debt zs pct k := ⟨_, rfl⟩
        rw [← hd] at hr hx' ⊢
        have HD := Lib.hid hd
        clear hd
        go_wp2
        go_roundw
        case rel => exact ⟨k + 1, hlt, by go_num, congrArg (Value.int .i64) (by rw [HO.out, HD.out]), hs⟩
        case measure => simp [intOf]; omega
      · go_wp2
        go_ret
        exact ⟨ret_int (by rw [HF.out, show zs.length = k by omega]), S2.trans hs⟩

set_option maxHeartbeats 2000000 in
theorem iWaived_any (debt : Int) (A : Option Addr) (c : Nat) (zs : List Int) (pct : Int) (w : World) (hz : zs.length ≤ 9223372036854775807) (hA : IntsAt w A zs) :
    Calls Try.prog 25 #[.int .i64 debt, .slice A zs.length c, .int .i64 pct] w fun e w' => e = .returned (.int .i64 (waived debt zs pct)) ∧ Same w w' := by
  cases h : recOk debt zs pct
  · have HF := Lib.hid (show (0 : Int) = waived debt zs pct by simp [waived, h])
    go_enter Try.func25, Try.ntmps25
    go_wp2_with fail
    refine (isPlan_any debt A c zs pct _ hz hA).mono ?_
    rintro e w1 ⟨rfl, hs1⟩
    rw [h]
    go_wp2
    go_ret
    exact ⟨ret_int HF.out, hs1⟩
  · have HF := Lib.hid (show waived debt zs pct = owed debt zs pct zs.length by simp [waived, h])
    have H := Lib.hid h
    obtain ⟨P, hP⟩ : ∃ P, P = plan debt zs pct := ⟨_, rfl⟩
    have hPl : P.length = zs.length := by rw [hP, plan_yes h, planTo_length]
    have HP := Lib.hid (show ∀ k, k < zs.length → P[k]? = some (min (owed debt zs pct k) (share zs pct k)) from fun k hk => by rw [hP]; exact plan_at h hk)
    have HQ := Lib.hid hP
    obtain ⟨_, ⟨d0, d1⟩, ⟨p0, p1⟩, hlen⟩ := recOk_and h
    go_enter Try.func25, Try.ntmps25
    go_wp2_with fail
    refine (isPlan_any debt A c zs pct _ hz hA).mono ?_
    rintro e w1 ⟨rfl, hs1⟩
    rw [h]
    clear h hP
    go_wp2_with fail
    refine (iPlan_any debt A c zs pct _ hz (hA.same hs1)).mono ?_
    rw [← HQ.out]
    rintro e w2 ⟨B, d, rfl, ho, hs2⟩
    have hB := ho.ints
    have S2 := hs1.trans hs2
    clear hs1 hs2 ho hA
    go_wp2
    go_loopw [0, 19] (fun d i wr => ∃ k : Nat, k ≤ zs.length ∧ i = .int .i64 k ∧ d = .int .i64 (owed debt zs pct k) ∧ Same w2 wr) (fun _ i _ => zs.length - (intOf i).toNat)
    case atStart => exact ⟨0, Nat.zero_le _, rfl, rfl, Same.refl _⟩
    case round =>
      obtain ⟨k, hk, rfl, rfl, hs⟩ := hrel
      have hr := owed_range H.out k
      by_cases hlt : k < zs.length
      · obtain ⟨b, off, x, rfl, hc, HX, _⟩ := (hB.same hs).at_ (k := k) (by omega)
        clear hB
        have hx : x = min (owed debt zs pct k) (share zs pct k) := Option.some.inj (HX.out.symm.trans (HP.out k hlt))
        have hsr := share_range H.out k
        have HO := Lib.hid (show owed debt zs pct (k + 1) = owed debt zs pct k - x by rw [hx]; rfl)
        have hx' : 0 ≤ x ∧ x ≤ owed debt zs pct k := by omega
        clear hx hsr
        obtain ⟨d, hd⟩ : ∃ d, d = owed debt zs pct k := ⟨_, rfl⟩
        rw [← hd] at hr hx' ⊢
        have HD := Lib.hid hd
        clear hd
        go_wp2
        go_roundw
        case rel => exact ⟨k + 1, hlt, by go_num, congrArg (Value.int .i64) (by rw [HO.out, HD.out]), hs⟩
        case measure => simp [intOf]; omega
      · go_wp2
        go_ret
        exact ⟨ret_int (by rw [HF.out, show zs.length = k by omega]), S2.trans hs⟩

set_option maxHeartbeats 2000000 in
theorem sRecoveredBy_any (debt : Int) (A : Option Addr) (c : Nat) (zs : List Int) (pct : Int) (w : World) (hz : zs.length ≤ 9223372036854775807) (hA : IntsAt w A zs) :
    Calls Try.prog 26 #[.int .i64 debt, .slice A zs.length c, .int .i64 pct] w fun e w' => e = .returned (.int .i64 (recoveredBy debt zs pct)) ∧ Same w w' := by
  cases h : recOk debt zs pct
  · have HF := Lib.hid (show (-1 : Int) = recoveredBy debt zs pct by simp [recoveredBy, h])
    go_enter Try.func26, Try.ntmps26
    go_wp2_with fail
    refine (l24Ask_any debt A c zs pct _ hz hA).mono ?_
    rintro e w1 ⟨rfl, hs1⟩
    rw [h]
    go_wp2
    go_ret
    exact ⟨ret_int HF.out, hs1⟩
  · have HF := Lib.hid (show recoveredBy debt zs pct = zeroFrom (owed debt zs pct) 0 (zs.length + 1) by simp [recoveredBy, h])
    have H := Lib.hid h
    obtain ⟨P, hP⟩ : ∃ P, P = plan debt zs pct := ⟨_, rfl⟩
    have hPl : P.length = zs.length := by rw [hP, plan_yes h, planTo_length]
    have HP := Lib.hid (show ∀ k, k < zs.length → P[k]? = some (min (owed debt zs pct k) (share zs pct k)) from fun k hk => by rw [hP]; exact plan_at h hk)
    have HQ := Lib.hid hP
    obtain ⟨_, ⟨d0, d1⟩, ⟨p0, p1⟩, hlen⟩ := recOk_and h
    go_enter Try.func26, Try.ntmps26
    go_wp2_with fail
    refine (l24Ask_any debt A c zs pct _ hz hA).mono ?_
    rintro e w1 ⟨rfl, hs1⟩
    rw [h]
    clear h hP
    go_wp2_with fail
    refine (sPlan_any debt A c zs pct _ hz (hA.same hs1)).mono ?_
    rw [← HQ.out]
    rintro e w2 ⟨B, d, rfl, ho, hs2⟩
    have hB := ho.ints
    have S2 := hs1.trans hs2
    clear hs1 hs2 ho hA
    go_wp2
    go_loopw [0, 8] (fun d i wr => ∃ k : Nat, k ≤ zs.length + 1 ∧ i = .int .i64 k ∧ d = .int .i64 (owed debt zs pct k) ∧ Hid (recoveredBy debt zs pct = zeroFrom (owed debt zs pct) k (zs.length + 1 - k)) ∧ Same w2 wr) (fun _ i _ => zs.length + 1 - (intOf i).toNat)
    case atStart => exact ⟨0, Nat.zero_le _, rfl, rfl, HF.out, Same.refl _⟩
    case round =>
      obtain ⟨k, hk, rfl, rfl, hF, hs⟩ := hrel
      have hr := owed_range H.out k
      have HY := Lib.hid (fun h : owed debt zs pct k = 0 => fun hk' : k ≤ zs.length => show recoveredBy debt zs pct = k by rw [hF.out, show zs.length + 1 - k = (zs.length - k) + 1 by omega, zeroFrom_yes h])
      have HN := Lib.hid (fun h : owed debt zs pct k ≠ 0 => fun hk' : k ≤ zs.length => show recoveredBy debt zs pct = zeroFrom (owed debt zs pct) (k + 1) (zs.length + 1 - (k + 1)) by rw [hF.out, show zs.length + 1 - k = (zs.length + 1 - (k + 1)) + 1 by omega, zeroFrom_no h])
      by_cases hlt : k < zs.length
      · obtain ⟨b, off, x, rfl, hc, HX, _⟩ := (hB.same hs).at_ (k := k) (by omega)
        clear hB
        have hx : x = min (owed debt zs pct k) (share zs pct k) := Option.some.inj (HX.out.symm.trans (HP.out k hlt))
        have hsr := share_range H.out k
        have HO := Lib.hid (show owed debt zs pct (k + 1) = owed debt zs pct k - x by rw [hx]; rfl)
        have hx' : 0 ≤ x ∧ x ≤ owed debt zs pct k := by omega
        clear hx hsr
        obtain ⟨d, hd⟩ : ∃ d, d = owed debt zs pct k := ⟨_, rfl⟩
        rw [← hd] at hr hx' ⊢
        have HD := Lib.hid hd
        clear hd
        by_cases hd0 : d = 0
        · have hb0 : (d == 0) = true := by simp [hd0]
          go_wp2
          go_ret
          exact ⟨ret_int (HY.out (by rw [← HD.out]; exact hd0) (by omega)).symm, S2.trans hs⟩
        · have hb0 : (d == 0) = false := by simp [hd0]
          have HN' := Lib.hid (HN.out (by rw [← HD.out]; exact hd0) (by omega))
          go_wp2
          go_roundw
          case rel => exact ⟨k + 1, by omega, by go_num, congrArg (Value.int .i64) (by rw [HO.out, HD.out]), HN'.out, hs⟩
          case measure => simp [intOf]; omega
      · by_cases hle : k = zs.length
        · obtain ⟨d, hd⟩ : ∃ d, d = owed debt zs pct k := ⟨_, rfl⟩
          rw [← hd] at hr ⊢
          have HD := Lib.hid hd
          clear hd
          by_cases hd0 : d = 0
          · have hb0 : (d == 0) = true := by simp [hd0]
            go_wp2
            go_ret
            exact ⟨ret_int (HY.out (by rw [← HD.out]; exact hd0) (by omega)).symm, S2.trans hs⟩
          · have hb0 : (d == 0) = false := by simp [hd0]
            have HN' := Lib.hid (HN.out (by rw [← HD.out]; exact hd0) (by omega))
            go_wp2
            go_roundw
            case rel => exact ⟨k + 1, by omega, by go_num, congrArg (Value.int .i64) (by rw [hle, owed_end H.out, ← hle]; exact HD.out), HN'.out, hs⟩
            case measure => simp [intOf]; omega
        · have HE := Lib.hid (show (-1 : Int) = recoveredBy debt zs pct by rw [hF.out, show zs.length + 1 - k = 0 by omega]; rfl)
          go_wp2
          go_ret
          exact ⟨ret_int HE.out, S2.trans hs⟩

set_option maxHeartbeats 2000000 in
theorem iRecoveredBy_any (debt : Int) (A : Option Addr) (c : Nat) (zs : List Int) (pct : Int) (w : World) (hz : zs.length ≤ 9223372036854775807) (hA : IntsAt w A zs) :
    Calls Try.prog 27 #[.int .i64 debt, .slice A zs.length c, .int .i64 pct] w fun e w' => e = .returned (.int .i64 (recoveredBy debt zs pct)) ∧ Same w w' := by
  cases h : recOk debt zs pct
  · have HF := Lib.hid (show (-1 : Int) = recoveredBy debt zs pct by simp [recoveredBy, h])
    go_enter Try.func27, Try.ntmps27
    go_wp2_with fail
    refine (isPlan_any debt A c zs pct _ hz hA).mono ?_
    rintro e w1 ⟨rfl, hs1⟩
    rw [h]
    go_wp2
    go_ret
    exact ⟨ret_int HF.out, hs1⟩
  · have HF := Lib.hid (show recoveredBy debt zs pct = zeroFrom (owed debt zs pct) 0 (zs.length + 1) by simp [recoveredBy, h])
    have H := Lib.hid h
    obtain ⟨P, hP⟩ : ∃ P, P = plan debt zs pct := ⟨_, rfl⟩
    have hPl : P.length = zs.length := by rw [hP, plan_yes h, planTo_length]
    have HP := Lib.hid (show ∀ k, k < zs.length → P[k]? = some (min (owed debt zs pct k) (share zs pct k)) from fun k hk => by rw [hP]; exact plan_at h hk)
    have HQ := Lib.hid hP
    obtain ⟨_, ⟨d0, d1⟩, ⟨p0, p1⟩, hlen⟩ := recOk_and h
    go_enter Try.func27, Try.ntmps27
    go_wp2_with fail
    refine (isPlan_any debt A c zs pct _ hz hA).mono ?_
    rintro e w1 ⟨rfl, hs1⟩
    rw [h]
    clear h hP
    go_wp2_with fail
    refine (iPlan_any debt A c zs pct _ hz (hA.same hs1)).mono ?_
    rw [← HQ.out]
    rintro e w2 ⟨B, d, rfl, ho, hs2⟩
    have hB := ho.ints
    have S2 := hs1.trans hs2
    clear hs1 hs2 ho hA
    go_wp2
    go_loopw [0, 19] (fun d i wr => ∃ k : Nat, k ≤ zs.length  ∧ i = .int .i64 k ∧ d = .int .i64 (owed debt zs pct k) ∧ Hid (recoveredBy debt zs pct = zeroFrom (owed debt zs pct) k (zs.length + 1 - k)) ∧ Same w2 wr) (fun _ i _ => zs.length + 1 - (intOf i).toNat)
    case atStart => exact ⟨0, Nat.zero_le _, rfl, rfl, HF.out, Same.refl _⟩
    case round =>
      obtain ⟨k, hk, rfl, rfl, hF, hs⟩ := hrel
      have hr := owed_range H.out k
      have HY := Lib.hid (fun h : owed debt zs pct k = 0 => fun hk' : k ≤ zs.length => show recoveredBy debt zs pct = k by rw [hF.out, show zs.length + 1 - k = (zs.length - k) + 1 by omega, zeroFrom_yes h])
      have HN := Lib.hid (fun h : owed debt zs pct k ≠ 0 => fun hk' : k ≤ zs.length => show recoveredBy debt zs pct = zeroFrom (owed debt zs pct) (k + 1) (zs.length + 1 - (k + 1)) by rw [hF.out, show zs.length + 1 - k = (zs.length + 1 - (k + 1)) + 1 by omega, zeroFrom_no h])
      by_cases hlt : k < zs.length
      · obtain ⟨b, off, x, rfl, hc, HX, _⟩ := (hB.same hs).at_ (k := k) (by omega)
        clear hB
        have hx : x = min (owed debt zs pct k) (share zs pct k) := Option.some.inj (HX.out.symm.trans (HP.out k hlt))
        have hsr := share_range H.out k
        have HO := Lib.hid (show owed debt zs pct (k + 1) = owed debt zs pct k - x by rw [hx]; rfl)
        have hx' : 0 ≤ x ∧ x ≤ owed debt zs pct k := by omega
        clear hx hsr
        obtain ⟨d, hd⟩ : ∃ d, d = owed debt zs pct k := ⟨_, rfl⟩
        rw [← hd] at hr hx' ⊢
        have HD := Lib.hid hd
        clear hd
        by_cases hd0 : d = 0
        · have hb0 : (d == 0) = true := by simp [hd0]
          go_wp2
          go_ret
          exact ⟨ret_int (HY.out (by rw [← HD.out]; exact hd0) (by omega)).symm, S2.trans hs⟩
        · have hb0 : (d == 0) = false := by simp [hd0]
          have HN' := Lib.hid (HN.out (by rw [← HD.out]; exact hd0) (by omega))
          go_wp2
          go_roundw
          case rel => exact ⟨k + 1, by omega, by go_num, congrArg (Value.int .i64) (by rw [HO.out, HD.out]), HN'.out, hs⟩
          case measure => simp [intOf]; omega
      · obtain ⟨d, hd⟩ : ∃ d, d = owed debt zs pct k := ⟨_, rfl⟩
        rw [← hd] at hr ⊢
        have HD := Lib.hid hd
        clear hd
        by_cases hd0 : d = 0
        · have hb0 : (d == 0) = true := by simp [hd0]
          go_wp2
          go_ret
          exact ⟨ret_int (by rw [HY.out (by rw [← HD.out]; exact hd0) (by omega)]; omega), S2.trans hs⟩
        · have hb0 : (d == 0) = false := by simp [hd0]
          have HN' := Lib.hid (show (-1 : Int) = recoveredBy debt zs pct by rw [HN.out (by rw [← HD.out]; exact hd0) (by omega), show zs.length + 1 - (k + 1) = 0 by omega]; rfl)
          go_wp2
          go_ret
          exact ⟨ret_int HN'.out, S2.trans hs⟩

end Go.Proofs.Ytmpeohmhkhhooaa
