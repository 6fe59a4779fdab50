/-
  The contracts of PaidMonths and HeldBack.
-/
import Derived.Test.YtegcfjnjgklchaaSusp
import Derived.Test.YtegcfjnjgklchaaIntS
namespace Go.Proofs.Ytegcfjnjgklchaa
open Go.RowKit

theorem paidTo_mid (zs : List Int) {start m limit : Int} (hok : paidOk zs start m limit = true) : paidL zs start m limit = paidTo zs start limit (m - start).toNat := if_pos hok

set_option maxHeartbeats 1000000 in
theorem iPaid_any (A : Option Addr) (c : Nat) (zs : List Int) (start to limit : Int) (w : World) (hz : zs.length ≤ 9223372036854775807) (hA : IntsAt w A zs) :
    Calls Try.prog 36 #[.slice A zs.length c, .int .i64 start, .int .i64 to, .int .i64 limit] w fun e w' => RetI w (paidL zs start to limit) e w' := by
  cases k1 : proofsOk zs
  · have hf := Lib.hid (show paidL zs start to limit = [] by simp [paidL, paidOk, k1])
    go_enter Try.func36, Try.ntmps36
    go_wp2_with (first | (go_at_call 17; refine (iProofsOk_any _ _ zs _ hz hA).mono ?_; rintro e w' ⟨rfl, rfl⟩) | (go_at_call 46; refine (iMonthOk_any _ _).mono ?_; rintro e w' ⟨rfl, rfl⟩) | (go_at_call 59; refine (iEnd_any _ _).mono ?_; rintro e w' ⟨rfl, rfl⟩) | (go_at_call 49; refine (within_any _ _ _ _).mono ?_; rintro e w' ⟨rfl, rfl⟩))
    go_ret
    rw [hf.out]
    exact RetI.of (OwnI.nil _ _) (Same.refl _)
  · cases k2 : inB start 0 3599
    · have hf := Lib.hid (show paidL zs start to limit = [] by simp [paidL, paidOk, k1, k2])
      go_enter Try.func36, Try.ntmps36
      go_wp2_with (first | (go_at_call 17; refine (iProofsOk_any _ _ zs _ hz hA).mono ?_; rintro e w' ⟨rfl, rfl⟩) | (go_at_call 46; refine (iMonthOk_any _ _).mono ?_; rintro e w' ⟨rfl, rfl⟩) | (go_at_call 59; refine (iEnd_any _ _).mono ?_; rintro e w' ⟨rfl, rfl⟩) | (go_at_call 49; refine (within_any _ _ _ _).mono ?_; rintro e w' ⟨rfl, rfl⟩))
      go_ret
      rw [hf.out]
      exact RetI.of (OwnI.nil _ _) (Same.refl _)
    · cases k3 : inB to 0 3600
      · have hf := Lib.hid (show paidL zs start to limit = [] by simp [paidL, paidOk, k1, k2, k3])
        go_enter Try.func36, Try.ntmps36
        go_wp2_with (first | (go_at_call 17; refine (iProofsOk_any _ _ zs _ hz hA).mono ?_; rintro e w' ⟨rfl, rfl⟩) | (go_at_call 46; refine (iMonthOk_any _ _).mono ?_; rintro e w' ⟨rfl, rfl⟩) | (go_at_call 59; refine (iEnd_any _ _).mono ?_; rintro e w' ⟨rfl, rfl⟩) | (go_at_call 49; refine (within_any _ _ _ _).mono ?_; rintro e w' ⟨rfl, rfl⟩))
        go_ret
        rw [hf.out]
        exact RetI.of (OwnI.nil _ _) (Same.refl _)
      · rcases Decidable.em (to ≤ start + 600) with k4 | k4
        · cases k5 : inB limit 1 120
          · have hf := Lib.hid (show paidL zs start to limit = [] by simp [paidL, paidOk, k1, k2, k3, k4, k5])
            have hi2 := inB_iff.1 k2
            go_enter Try.func36, Try.ntmps36
            go_wp2_with (first | (go_at_call 17; refine (iProofsOk_any _ _ zs _ hz hA).mono ?_; rintro e w' ⟨rfl, rfl⟩) | (go_at_call 46; refine (iMonthOk_any _ _).mono ?_; rintro e w' ⟨rfl, rfl⟩) | (go_at_call 59; refine (iEnd_any _ _).mono ?_; rintro e w' ⟨rfl, rfl⟩) | (go_at_call 49; refine (within_any _ _ _ _).mono ?_; rintro e w' ⟨rfl, rfl⟩))
            go_ret
            rw [hf.out]
            exact RetI.of (OwnI.nil _ _) (Same.refl _)
          · have hp : paidOk zs start to limit = true := by simp [paidOk, k1, k2, k3, k4, k5]
            have hf := Lib.hid (paidTo_mid zs hp)
            clear hp
            have K1 := Lib.hid k1
            have K5 := Lib.hid k5
            have hi2 := inB_iff.1 k2
            have hi3 := inB_iff.1 k3
            go_enter Try.func36, Try.ntmps36
            go_wp2_with (first | (go_at_call 17; refine (iProofsOk_any _ _ zs _ hz hA).mono ?_; rintro e w' ⟨rfl, rfl⟩) | (go_at_call 46; refine (iMonthOk_any _ _).mono ?_; rintro e w' ⟨rfl, rfl⟩) | (go_at_call 59; refine (iEnd_any _ _).mono ?_; rintro e w' ⟨rfl, rfl⟩) | (go_at_call 49; refine (within_any _ _ _ _).mono ?_; rintro e w' ⟨rfl, rfl⟩))
            clear k1 k2 k3 k5
            go_loopw [9, 10, 11] (fun o h m wr => ∃ k : Nat, k ≤ (to - start).toNat ∧ m = .int .i64 (start + k) ∧ h = .int .i64 (heldTo zs start limit k) ∧ OwnI wr w.heap.size o (paidTo zs start limit k) ∧ Same w wr) (fun _ _ m _ => (to - intOf m).toNat)
            case atStart => exact ⟨0, Nat.zero_le _, by simp, rfl, World.ownsRow_lit _ _ 0 (Nat.le_refl _) (by unfold maxLen; omega) rfl, (Same.refl w).alloc _⟩
            case round =>
              obtain ⟨k, hk, rfl, rfl, hown, hs⟩ := hrel
              have hh := heldTo_range zs start limit k
              have hl := paidTo_length zs start limit k
              have hl' : (paidTo zs start limit k).length ≤ 1000000000 := by omega
              clear hl
              by_cases hlt : start + (k : Int) < to
              · have hsu : suspB zs start (start + k) limit = lateB zs start (start + k) limit := by
                  have h5 := inB_iff.1 K5.out
                  simp [suspB, K1.out, inB]; omega
                have HSU := Lib.hid hsu
                clear hsu
                cases hla : lateB zs start (start + k) limit
                · have HLA := Lib.hid hla
                  go_wp2_with fail
                  refine (iIsSuspended_any A c zs start (start + k) limit _ hz (hA.same hs)).mono ?_
                  rintro e w1 ⟨rfl, rfl⟩
                  rw [HSU.out, HLA.out]
                  clear hla
                  go_wp2_with (at_builtin; refine appI _ rfl (.tmp 53) (.tmp 56) rfl w.heap.size _ _ rfl (OwnI.alloc hown _) wr.heap.size 1 (1 + heldTo zs start limit k) rfl (by simp) hl' (by have := hs.size; simp; omega) ?_)
                  intro v' w1 ho1 hup
                  have hs1 := (hs.alloc _).upds hup (Nat.le_refl _)
                  clear hup
                  go_wp2
                  go_roundw
                  case rel => exact ⟨k + 1, by omega, by go_num, by rw [heldTo_not HLA.out], by rw [paidTo_not HLA.out]; exact ho1, hs1⟩
                  case measure => simp [intOf]; omega
                · have HLA := Lib.hid hla
                  go_wp2_with fail
                  refine (iIsSuspended_any A c zs start (start + k) limit _ hz (hA.same hs)).mono ?_
                  rintro e w1 ⟨rfl, rfl⟩
                  rw [HSU.out, HLA.out]
                  clear hla
                  go_wp2_with (at_builtin; refine appI _ rfl (.tmp 48) (.tmp 49) rfl w.heap.size _ _ rfl (OwnI.alloc hown _) wr.heap.size 1 0 rfl (by simp) hl' (by have := hs.size; simp; omega) ?_)
                  intro v' w1 ho1 hup
                  have hs1 := (hs.alloc _).upds hup (Nat.le_refl _)
                  clear hup
                  go_wp2
                  go_roundw
                  case rel => exact ⟨k + 1, by omega, by go_num, by rw [heldTo_late HLA.out], by rw [paidTo_late HLA.out]; exact ho1, hs1⟩
                  case measure => simp [intOf]; omega
              · go_wp2
                go_ret
                rw [hf.out, show (to - start).toNat = k by omega]
                exact RetI.of hown hs
        · have hf := Lib.hid (show paidL zs start to limit = [] by simp [paidL, paidOk, k1, k2, k3, k4])
          have hi2 := inB_iff.1 k2
          go_enter Try.func36, Try.ntmps36
          go_wp2_with (first | (go_at_call 17; refine (iProofsOk_any _ _ zs _ hz hA).mono ?_; rintro e w' ⟨rfl, rfl⟩) | (go_at_call 46; refine (iMonthOk_any _ _).mono ?_; rintro e w' ⟨rfl, rfl⟩) | (go_at_call 59; refine (iEnd_any _ _).mono ?_; rintro e w' ⟨rfl, rfl⟩) | (go_at_call 49; refine (within_any _ _ _ _).mono ?_; rintro e w' ⟨rfl, rfl⟩))
          go_ret
          rw [hf.out]
          exact RetI.of (OwnI.nil _ _) (Same.refl _)

set_option maxHeartbeats 1000000 in
theorem sPaid_any (A : Option Addr) (c : Nat) (zs : List Int) (start to limit : Int) (w : World) (hz : zs.length ≤ 9223372036854775807) (hA : IntsAt w A zs) :
    Calls Try.prog 40 #[.slice A zs.length c, .int .i64 start, .int .i64 to, .int .i64 limit] w fun e w' => RetI w (paidL zs start to limit) e w' := by
  cases k1 : proofsOk zs
  · have hf := Lib.hid (show paidL zs start to limit = [] by simp [paidL, paidOk, k1])
    go_enter Try.func40, Try.ntmps40
    go_wp2_with (first | (go_at_call 15; refine (sProofsOk_any _ _ zs _ hz (hA.same ((Same.refl w).alloc _))).mono ?_; rintro e w' ⟨rfl, n, rfl⟩) | (go_at_call 45; refine (sMonthOk_any _ _).mono ?_; rintro e w' ⟨rfl, rfl⟩) | (go_at_call 60; refine (sEnd_any _ _).mono ?_; rintro e w' ⟨rfl, rfl⟩) | (go_at_call 47; refine (l01In_any _ _ _ _).mono ?_; rintro e w' ⟨rfl, rfl⟩))
    go_ret
    rw [hf.out]
    exact RetI.of (World.ownsRow_lit _ _ 0 (Nat.le_refl _) (by unfold maxLen; omega) rfl) (((Same.refl w).alloc _).drewN _)
  · cases k2 : inB start 0 3599
    · have hf := Lib.hid (show paidL zs start to limit = [] by simp [paidL, paidOk, k1, k2])
      go_enter Try.func40, Try.ntmps40
      go_wp2_with (first | (go_at_call 15; refine (sProofsOk_any _ _ zs _ hz (hA.same ((Same.refl w).alloc _))).mono ?_; rintro e w' ⟨rfl, n, rfl⟩) | (go_at_call 45; refine (sMonthOk_any _ _).mono ?_; rintro e w' ⟨rfl, rfl⟩) | (go_at_call 60; refine (sEnd_any _ _).mono ?_; rintro e w' ⟨rfl, rfl⟩) | (go_at_call 47; refine (l01In_any _ _ _ _).mono ?_; rintro e w' ⟨rfl, rfl⟩))
      go_ret
      rw [hf.out]
      exact RetI.of (World.ownsRow_lit _ _ 0 (Nat.le_refl _) (by unfold maxLen; omega) rfl) (((Same.refl w).alloc _).drewN _)
    · cases k3 : inB to 0 3600
      · have hf := Lib.hid (show paidL zs start to limit = [] by simp [paidL, paidOk, k1, k2, k3])
        go_enter Try.func40, Try.ntmps40
        go_wp2_with (first | (go_at_call 15; refine (sProofsOk_any _ _ zs _ hz (hA.same ((Same.refl w).alloc _))).mono ?_; rintro e w' ⟨rfl, n, rfl⟩) | (go_at_call 45; refine (sMonthOk_any _ _).mono ?_; rintro e w' ⟨rfl, rfl⟩) | (go_at_call 60; refine (sEnd_any _ _).mono ?_; rintro e w' ⟨rfl, rfl⟩) | (go_at_call 47; refine (l01In_any _ _ _ _).mono ?_; rintro e w' ⟨rfl, rfl⟩))
        go_ret
        rw [hf.out]
        exact RetI.of (World.ownsRow_lit _ _ 0 (Nat.le_refl _) (by unfold maxLen; omega) rfl) (((Same.refl w).alloc _).drewN _)
      · rcases Decidable.em (to ≤ start + 600) with k4 | k4
        · cases k5 : inB limit 1 120
          · have hf := Lib.hid (show paidL zs start to limit = [] by simp [paidL, paidOk, k1, k2, k3, k4, k5])
            have hi2 := inB_iff.1 k2
            go_enter Try.func40, Try.ntmps40
            go_wp2_with (first | (go_at_call 15; refine (sProofsOk_any _ _ zs _ hz (hA.same ((Same.refl w).alloc _))).mono ?_; rintro e w' ⟨rfl, n, rfl⟩) | (go_at_call 45; refine (sMonthOk_any _ _).mono ?_; rintro e w' ⟨rfl, rfl⟩) | (go_at_call 60; refine (sEnd_any _ _).mono ?_; rintro e w' ⟨rfl, rfl⟩) | (go_at_call 47; refine (l01In_any _ _ _ _).mono ?_; rintro e w' ⟨rfl, rfl⟩))
            go_ret
            rw [hf.out]
            exact RetI.of (World.ownsRow_lit _ _ 0 (Nat.le_refl _) (by unfold maxLen; omega) rfl) (((Same.refl w).alloc _).drewN _)
          · have hp : paidOk zs start to limit = true := by simp [paidOk, k1, k2, k3, k4, k5]
            have hf := Lib.hid (paidTo_mid zs hp)
            clear hp
            have K1 := Lib.hid k1
            have hi2 := inB_iff.1 k2
            have hi3 := inB_iff.1 k3
            go_enter Try.func40, Try.ntmps40
            go_wp2_with (first | (go_at_call 15; refine (sProofsOk_any _ _ zs _ hz (hA.same ((Same.refl w).alloc _))).mono ?_; rintro e w' ⟨rfl, n, rfl⟩) | (go_at_call 45; refine (sMonthOk_any _ _).mono ?_; rintro e w' ⟨rfl, rfl⟩) | (go_at_call 60; refine (sEnd_any _ _).mono ?_; rintro e w' ⟨rfl, rfl⟩) | (go_at_call 47; refine (l01In_any _ _ _ _).mono ?_; rintro e w' ⟨rfl, rfl⟩))
            clear k1 k2 k3 k5
            go_loopw [9, 10, 11] (fun o h m wr => ∃ k : Nat, k ≤ (to - start).toNat ∧ m = .int .i64 (start + k) ∧ h = .int .i64 (heldTo zs start limit k) ∧ OwnI wr w.heap.size o (paidTo zs start limit k) ∧ Same w wr) (fun _ _ m _ => (to - intOf m).toNat)
            case atStart => exact ⟨0, Nat.zero_le _, by simp, rfl, World.ownsRow_lit _ _ 0 (Nat.le_refl _) (by unfold maxLen; omega) rfl, ((Same.refl w).alloc _).drewN _⟩
            case round =>
              obtain ⟨k, hk, rfl, rfl, hown, hs⟩ := hrel
              have hh := heldTo_range zs start limit k
              have hl := paidTo_length zs start limit k
              have hl' : (paidTo zs start limit k).length ≤ 1000000000 := by omega
              clear hl
              by_cases hlt : start + (k : Int) < to
              · cases hla : lateB zs start (start + k) limit
                · have HLA := Lib.hid hla
                  go_wp2_with fail
                  refine (sLate_any A c zs start (start + k) limit _ K1 hi2.1 hi2.2 (by omega) (by omega) (hA.same hs)).mono ?_
                  rintro e w1 ⟨rfl, rfl⟩
                  rw [HLA.out]
                  clear hla
                  go_wp2_with (at_builtin; refine appI _ rfl (.tmp 54) (.tmp 57) rfl w.heap.size _ _ rfl (OwnI.alloc hown _) wr.heap.size 1 (1 + heldTo zs start limit k) rfl (by simp) hl' (by have := hs.size; simp; omega) ?_)
                  intro v' w1 ho1 hup
                  have hs1 := (hs.alloc _).upds hup (Nat.le_refl _)
                  clear hup
                  go_wp2
                  go_roundw
                  case rel => exact ⟨k + 1, by omega, by go_num, by rw [heldTo_not HLA.out], by rw [paidTo_not HLA.out]; exact ho1, hs1⟩
                  case measure => simp [intOf]; omega
                · have HLA := Lib.hid hla
                  go_wp2_with fail
                  refine (sLate_any A c zs start (start + k) limit _ K1 hi2.1 hi2.2 (by omega) (by omega) (hA.same hs)).mono ?_
                  rintro e w1 ⟨rfl, rfl⟩
                  rw [HLA.out]
                  clear hla
                  go_wp2_with (at_builtin; refine appI _ rfl (.tmp 51) (.tmp 52) rfl w.heap.size _ _ rfl (OwnI.alloc hown _) wr.heap.size 1 0 rfl (by simp) hl' (by have := hs.size; simp; omega) ?_)
                  intro v' w1 ho1 hup
                  have hs1 := (hs.alloc _).upds hup (Nat.le_refl _)
                  clear hup
                  go_wp2
                  go_roundw
                  case rel => exact ⟨k + 1, by omega, by go_num, by rw [heldTo_late HLA.out], by rw [paidTo_late HLA.out]; exact ho1, hs1⟩
                  case measure => simp [intOf]; omega
              · go_wp2
                go_ret
                rw [hf.out, show (to - start).toNat = k by omega]
                exact RetI.of hown hs
        · have hf := Lib.hid (show paidL zs start to limit = [] by simp [paidL, paidOk, k1, k2, k3, k4])
          have hi2 := inB_iff.1 k2
          go_enter Try.func40, Try.ntmps40
          go_wp2_with (first | (go_at_call 15; refine (sProofsOk_any _ _ zs _ hz (hA.same ((Same.refl w).alloc _))).mono ?_; rintro e w' ⟨rfl, n, rfl⟩) | (go_at_call 45; refine (sMonthOk_any _ _).mono ?_; rintro e w' ⟨rfl, rfl⟩) | (go_at_call 60; refine (sEnd_any _ _).mono ?_; rintro e w' ⟨rfl, rfl⟩) | (go_at_call 47; refine (l01In_any _ _ _ _).mono ?_; rintro e w' ⟨rfl, rfl⟩))
          go_ret
          rw [hf.out]
          exact RetI.of (World.ownsRow_lit _ _ 0 (Nat.le_refl _) (by unfold maxLen; omega) rfl) (((Same.refl w).alloc _).drewN _)
end Go.Proofs.Ytegcfjnjgklchaa
