/-
  The contracts of RecoveryPlan.
-/
import Derived.Test.YtmpeohmhkhhooaaRecOk
namespace Go.Proofs.Ytmpeohmhkhhooaa
open Go.RowKit

set_option maxHeartbeats 2000000 in
theorem sPlan_any (debt : Int) (A : Option Addr) (c : Nat) (zs : List Int) (pct : Int) (w : World) (hz : zs.length ≤ 9223372036854775807) (hA : IntsAt w A zs) :
    Calls Try.prog 18 #[.int .i64 debt, .slice A zs.length c, .int .i64 pct] w fun e w' => RetI w (plan debt zs pct) e w' := by
  cases h : recOk debt zs pct
  · have HF := Lib.hid (plan_no h)
    have H := Lib.hid h
    clear h
    go_enter Try.func18, Try.ntmps18
    go_wp2
    go_loopw [0, 7, 8] (fun d o i wr => d = .int .i64 debt ∧ i = .int .i64 0 ∧ OwnI wr w.heap.size o [] ∧ Same w wr) (fun _ _ _ _ => 0)
    case atStart => exact ⟨rfl, rfl, OwnI.empty _ (Nat.le_refl _), (Same.refl w).alloc _⟩
    case round =>
      obtain ⟨rfl, rfl, hown, hs⟩ := hrel
      by_cases hlt : 0 < zs.length
      · go_wp2_with fail
        refine (l24Ask_any debt A c zs pct _ hz (hA.same hs)).mono ?_
        rintro e w1 ⟨rfl, hs1⟩
        rw [H.out]
        go_wp2
        go_ret
        rw [HF.out]
        exact RetI.of (hown.same hs1) (hs.trans hs1)
      · go_wp2
        go_ret
        rw [HF.out]
        exact RetI.of hown hs
  · have HF := Lib.hid (plan_yes h)
    have H := Lib.hid h
    obtain ⟨_, ⟨d0, d1⟩, ⟨p0, p1⟩, hlen⟩ := recOk_and h
    clear h
    go_enter Try.func18, Try.ntmps18

    go_wp2
    go_loopw [0, 7, 8] (fun d o i wr => ∃ k : Nat, k ≤ zs.length ∧ i = .int .i64 k ∧ d = .int .i64 (owed debt zs pct k) ∧ OwnI wr w.heap.size o (planTo debt zs pct k) ∧ Same w wr) (fun _ _ i _ => zs.length - (intOf i).toNat)
    case atStart => exact ⟨0, Nat.zero_le _, rfl, rfl, OwnI.empty _ (Nat.le_refl _), (Same.refl w).alloc _⟩
    case round =>
      obtain ⟨k, hk, rfl, rfl, hown, hs⟩ := hrel
      have hr := owed_range H.out k
      by_cases hlt : k < zs.length
      · have HOK := Lib.hid (recOk_debt H.out hr)
        go_wp2_with fail
        refine (l24Ask_any _ A c zs pct _ hz (hA.same hs)).mono ?_
        rintro e w1 ⟨rfl, hs1⟩
        rw [HOK.out]
        replace hown := hown.same hs1
        replace hs := hs.trans hs1
        clear hs1
        obtain ⟨b, off, x, rfl, hc, HX, _⟩ := (hA.same hs).at_ hlt
        clear hA
        have HO := Lib.hid (owed_succ (debt := debt) (pct := pct) HX.out)
        have HP := Lib.hid (planTo_succ (debt := debt) (pct := pct) HX.out)
        obtain ⟨x0, x1, xp0, xp1⟩ := share_facts H.out HX.out
        have hl' : (planTo debt zs pct k).length ≤ 1000000000 := by rw [planTo_length]; omega
        have hsz := hs.size
        obtain ⟨d, hd⟩ : ∃ d, d = owed debt zs pct k := ⟨_, rfl⟩
        rw [← hd] at hr ⊢
        have HD := Lib.hid hd
        clear hd
        by_cases hm : d ≤ x * pct / 100
        · have HM := Lib.hid (show min d (x * pct / 100) = d from Int.min_eq_left hm)
          go_wp2_with (at_builtin; refine appI _ rfl (.tmp 32) (.tmp 34) rfl w.heap.size _ _ rfl (OwnI.alloc hown _) w1.heap.size 1 (d) rfl (by simp) hl' (by simp; omega) ?_)
          intro v' w3 ho3 hup
          have hs3 := (hs.alloc _).upds hup (Nat.le_refl _)
          clear hup
          go_wp2
          go_roundw
          case rel => exact ⟨k + 1, hlt, by go_num, congrArg (Value.int .i64) (by have h1 := HO.out; rw [← HD.out, HM.out] at h1; omega), by rw [HP.out, ← HD.out, HM.out]; exact ho3, hs3⟩
          case measure => simp [intOf]; omega
        · have HM := Lib.hid (show min d (x * pct / 100) = x * pct / 100 from Int.min_eq_right (by omega))
          go_wp2_with (at_builtin; refine appI _ rfl (.tmp 32) (.tmp 34) rfl w.heap.size _ _ rfl (OwnI.alloc hown _) w1.heap.size 1 (x * pct / 100) rfl (by simp) hl' (by simp; omega) ?_)
          intro v' w3 ho3 hup
          have hs3 := (hs.alloc _).upds hup (Nat.le_refl _)
          clear hup
          go_wp2
          go_roundw
          case rel => exact ⟨k + 1, hlt, by go_num, congrArg (Value.int .i64) (by have h1 := HO.out; rw [← HD.out, HM.out] at h1; omega), by rw [HP.out, ← HD.out, HM.out]; exact ho3, hs3⟩
          case measure => simp [intOf]; omega
      · go_wp2
        go_ret
        rw [HF.out, show zs.length = k by omega]
        exact RetI.of hown hs

set_option maxHeartbeats 2000000 in
theorem iPlan_any (debt : Int) (A : Option Addr) (c : Nat) (zs : List Int) (pct : Int) (w : World) (hz : zs.length ≤ 9223372036854775807) (hA : IntsAt w A zs) :
    Calls Try.prog 20 #[.int .i64 debt, .slice A zs.length c, .int .i64 pct] w fun e w' => RetI w (plan debt zs pct) e w' := by
  cases h : recOk debt zs pct
  · have HF := Lib.hid (plan_no h)
    have H := Lib.hid h
    clear h
    go_enter Try.func20, Try.ntmps20
    go_wp2_with fail
    refine (isPlan_any debt A c zs pct _ hz hA).mono ?_
    rintro e w1 ⟨rfl, hs1⟩
    rw [H.out]
    go_wp2
    go_ret
    rw [HF.out]
    exact RetI.of (OwnI.nil _ _) hs1
  · have HF := Lib.hid (plan_yes h)
    have H := Lib.hid h
    obtain ⟨_, ⟨d0, d1⟩, ⟨p0, p1⟩, hlen⟩ := recOk_and h
    clear h
    go_enter Try.func20, Try.ntmps20
    go_wp2_with fail
    refine (isPlan_any debt A c zs pct _ hz hA).mono ?_
    rintro e w1 ⟨rfl, hs1⟩
    rw [H.out]
    go_wp2
    go_loopw [0, 7, 19] (fun d o i wr => ∃ k : Nat, k ≤ zs.length ∧ i = .int .i64 k ∧ d = .int .i64 (owed debt zs pct k) ∧ OwnI wr w.heap.size o (planTo debt zs pct k) ∧ Same w wr) (fun _ _ i _ => zs.length - (intOf i).toNat)
    case atStart => exact ⟨0, Nat.zero_le _, rfl, rfl, OwnI.empty _ hs1.size, hs1.alloc _⟩
    case round =>
      obtain ⟨k, hk, rfl, rfl, hown, hs⟩ := hrel
      have hr := owed_range H.out k
      by_cases hlt : k < zs.length
      · have HOK := Lib.hid (recOk_debt H.out hr)

        obtain ⟨b, off, x, rfl, hc, HX, _⟩ := (hA.same hs).at_ hlt
        clear hA
        have HO := Lib.hid (owed_succ (debt := debt) (pct := pct) HX.out)
        have HP := Lib.hid (planTo_succ (debt := debt) (pct := pct) HX.out)
        obtain ⟨x0, x1, xp0, xp1⟩ := share_facts H.out HX.out
        have hl' : (planTo debt zs pct k).length ≤ 1000000000 := by rw [planTo_length]; omega
        have hsz := hs.size
        obtain ⟨d, hd⟩ : ∃ d, d = owed debt zs pct k := ⟨_, rfl⟩
        rw [← hd] at hr ⊢
        have HD := Lib.hid hd
        clear hd
        by_cases hm : d ≤ x * pct / 100
        · have HM := Lib.hid (show min d (x * pct / 100) = d from Int.min_eq_left hm)
          go_wp2_with (at_builtin; refine appI _ rfl (.tmp 29) (.tmp 31) rfl w.heap.size _ _ rfl (OwnI.alloc hown _) wr.heap.size 1 (d) rfl (by simp) hl' (by simp; omega) ?_)
          intro v' w3 ho3 hup
          have hs3 := (hs.alloc _).upds hup (Nat.le_refl _)
          clear hup
          go_wp2
          go_roundw
          case rel => exact ⟨k + 1, hlt, by go_num, congrArg (Value.int .i64) (by have h1 := HO.out; rw [← HD.out, HM.out] at h1; omega), by rw [HP.out, ← HD.out, HM.out]; exact ho3, hs3⟩
          case measure => simp [intOf]; omega
        · have HM := Lib.hid (show min d (x * pct / 100) = x * pct / 100 from Int.min_eq_right (by omega))
          go_wp2_with (at_builtin; refine appI _ rfl (.tmp 29) (.tmp 31) rfl w.heap.size _ _ rfl (OwnI.alloc hown _) wr.heap.size 1 (x * pct / 100) rfl (by simp) hl' (by simp; omega) ?_)
          intro v' w3 ho3 hup
          have hs3 := (hs.alloc _).upds hup (Nat.le_refl _)
          clear hup
          go_wp2
          go_roundw
          case rel => exact ⟨k + 1, hlt, by go_num, congrArg (Value.int .i64) (by have h1 := HO.out; rw [← HD.out, HM.out] at h1; omega), by rw [HP.out, ← HD.out, HM.out]; exact ho3, hs3⟩
          case measure => simp [intOf]; omega
      · go_wp2
        go_ret
        rw [HF.out, show zs.length = k by omega]
        exact RetI.of hown hs
end Go.Proofs.Ytmpeohmhkhhooaa
