/-
  The month of an event of a kind; the status at a month (the specification's side).
-/
import Derived.Test.YtjfmknhnplefnaaGreatZEventsOk
import Derived.Test.YtjfmknhnplefnaaGreatZPlain
namespace Go.Proofs.YtjfmknhnplefnaaGreat
open Go.RowKit
set_option linter.unusedVariables false
set_option linter.unusedSimpArgs false

set_option maxRecDepth 10000 in
set_option maxHeartbeats 2000000 in
theorem sMonthOfKind_any (A : Option Addr) (c : Nat) (L : List TEvent) (kind : Int) (w : World) (hz : L.length ≤ 1048576) (hA : AtEvent w A L) :
    Calls Tryz.prog 138 #[.slice A L.length c, .int .i64 kind] w fun e w' => e = .returned (.int .i64 (monthOfKind L kind)) ∧ Same w w' := by
  have HR := Lib.hid (show monthOfKind L kind = if eventsOk L = true then kindTo L kind L.length else -1 from rfl)
  have H0 := Lib.hid (show kindTo L kind 0 = -1 from rfl)
  have HE := Lib.hid (fun w (h : AtEvent w A L) => sEventsOk_any A c L w hz h)
  cases hk : eventsOk L
  · rw [hk] at HE
    have HV := Lib.hid (show monthOfKind L kind = -1 by rw [HR.out, hk]; rfl)
    clear hk HR
    go_enter Tryz.func138, Tryz.ntmps138
    go_wp2
    go_loopw [5, 6] (fun t5 i wr => i = .int .i64 0 ∧ t5 = .int .i64 (-1) ∧ Same w wr) (fun _ i _ => 0)
    case atStart => exact ⟨rfl, rfl, Same.refl _⟩
    case round =>
      obtain ⟨rfl, rfl, hs⟩ := hrel
      by_cases h0 : 0 < L.length
      · go_wp2_with fail
        refine (HE.out _ (hA.same hs)).mono ?_
        rintro e w1 ⟨rfl, hs1⟩
        go_wp2
        go_ret
        exact ⟨ret_int HV.out.symm, hs.trans hs1⟩
      · go_wp2
        go_ret
        exact ⟨ret_int HV.out.symm, hs⟩
  · rw [hk] at HE
    have HV := Lib.hid (show monthOfKind L kind = kindTo L kind L.length by rw [HR.out, hk]; rfl)
    clear hk HR
    go_enter Tryz.func138, Tryz.ntmps138
    go_wp2
    go_loopw [5, 6] (fun t5 i wr => ∃ k : Nat, k ≤ L.length ∧ i = .int .i64 k ∧ t5 = .int .i64 (kindTo L kind k) ∧ Same w wr) (fun _ i _ => L.length - (intOf i).toNat)
    case atStart => exact ⟨0, Nat.zero_le _, rfl, rfl, Same.refl _⟩
    case round =>
      obtain ⟨k, hk, rfl, rfl, hs⟩ := hrel
      by_cases hlt : k < L.length
      · go_wp2_with fail
        refine (HE.out _ (hA.same hs)).mono ?_
        rintro e w1 ⟨rfl, hs1⟩
        obtain ⟨b, off, x, rfl, hc, HX, hbl⟩ := (hA.same (hs.trans hs1)).at_ hlt
        obtain ⟨f0, f1⟩ := x
        have HS := Lib.hid (kindTo_succ kind HX.out)
        have d0 := hc 0 _ rfl
        have d1 := hc 1 _ rfl
        simp only [Nat.add_zero] at d0 d1
        clear hc HX
        by_cases e1 : f0 = kind
        · have HT := Lib.hid (show kindTo L kind (k + 1) = f1 by rw [HS.out]; simp [e1])
          have g1 : (f0 == kind) = true := by simp [e1]
          clear e1
          go_wp2
          go_roundw
          case rel => exact ⟨k + 1, hlt, by go_num, by rw [HT.out], hs.trans hs1⟩
          case measure => simp [intOf]; omega
        · have HT := Lib.hid (show kindTo L kind (k + 1) = kindTo L kind k by rw [HS.out]; simp [e1])
          have g1 : (f0 == kind) = false := by simp [e1]
          clear e1
          go_wp2
          go_roundw
          case rel => exact ⟨k + 1, hlt, by go_num, by rw [HT.out], hs.trans hs1⟩
          case measure => simp [intOf]; omega
      · obtain rfl : k = L.length := by omega
        go_wp2
        go_ret
        exact ⟨ret_int HV.out.symm, hs⟩

theorem evMonth_lt {E : List TEvent} {m : Int} {k : Nat} (h : eventsOk E = true) (hm : m < (E.getD k (0, 0)).2) : ∀ d, k + d < E.length → m < (E.getD (k + d) (0, 0)).2
  | 0, _ => hm
  | d + 1, hd => by
    have ih := evMonth_lt h hm d (by omega)
    simp only [eventsOk, Bool.and_eq_true] at h
    have he := allTo_iff.1 h.1 _ hd
    simp only [eventAt, Bool.and_eq_true, Bool.or_eq_true, beq_iff_eq, decide_eq_true_eq] at he
    have h2 : k + (d + 1) - 1 = k + d := by omega
    rw [h2] at he
    omega
theorem stTo_stop {E : List TEvent} {m : Int} {k : Nat} (h : eventsOk E = true) (hm : m < (E.getD k (0, 0)).2) : ∀ d, k + d ≤ E.length → stTo E m (k + d) = stTo E m k
  | 0, _ => rfl
  | d + 1, hd => by
    have h1 := evMonth_lt h hm d (by omega)
    have h2 : ¬ (E.getD (k + d) (0, 0)).2 ≤ m := by omega
    show (if (E.getD (k + d) (0, 0)).2 ≤ m then _ else stTo E m (k + d)) = _
    rw [if_neg h2]
    exact stTo_stop h hm d (by omega)

set_option maxRecDepth 10000 in
set_option maxHeartbeats 2000000 in
theorem sStatusAt_any (A : Option Addr) (c : Nat) (L : List TEvent) (m : Int) (w : World) (hz : L.length ≤ 1048576) (hA : AtEvent w A L) :
    Calls Tryz.prog 16 #[.slice A L.length c, .int .i64 m] w fun e w' => e = .returned (.int .i64 (statusAt L m)) ∧ Same w w' := by
  have HR := Lib.hid (show statusAt L m = if eventsOk L = true then stTo L m L.length else 0 from rfl)
  have HE := Lib.hid (fun w (h : AtEvent w A L) => sEventsOk_any A c L w hz h)
  cases hk : eventsOk L
  · rw [hk] at HE
    have HV := Lib.hid (show statusAt L m = 0 by rw [HR.out, hk]; rfl)
    clear hk HR
    go_enter Tryz.func16, Tryz.ntmps16
    go_wp2
    go_loopw [5, 6] (fun t5 i wr => i = .int .i64 0 ∧ t5 = .int .i64 0 ∧ Same w wr) (fun _ i _ => 0)
    case atStart => exact ⟨rfl, rfl, Same.refl _⟩
    case round =>
      obtain ⟨rfl, rfl, hs⟩ := hrel
      by_cases h0 : 0 < L.length
      · go_wp2_with fail
        refine (HE.out _ (hA.same hs)).mono ?_
        rintro e w1 ⟨rfl, hs1⟩
        go_wp2
        go_ret
        exact ⟨ret_int HV.out.symm, hs.trans hs1⟩
      · go_wp2
        go_ret
        exact ⟨ret_int HV.out.symm, hs⟩
  · rw [hk] at HE
    have HV := Lib.hid (show statusAt L m = stTo L m L.length by rw [HR.out, hk]; rfl)
    have HK := Lib.hid hk
    clear hk HR
    go_enter Tryz.func16, Tryz.ntmps16
    go_wp2
    go_loopw [5, 6] (fun t5 i wr => ∃ k : Nat, k ≤ L.length ∧ i = .int .i64 k ∧ t5 = .int .i64 (stTo L m k) ∧ Same w wr) (fun _ i _ => L.length - (intOf i).toNat)
    case atStart => exact ⟨0, Nat.zero_le _, rfl, rfl, Same.refl _⟩
    case round =>
      obtain ⟨k, hk, rfl, rfl, hs⟩ := hrel
      by_cases hlt : k < L.length
      · go_wp2_with fail
        refine (HE.out _ (hA.same hs)).mono ?_
        rintro e w1 ⟨rfl, hs1⟩
        obtain ⟨b, off, x, rfl, hc, HX, hbl⟩ := (hA.same (hs.trans hs1)).at_ hlt
        obtain ⟨f0, f1⟩ := x
        have HS := Lib.hid (stTo_succ m HX.out)
        have HG := Lib.hid (show (L.getD k (0, 0)).2 = f1 by simp [List.getD, HX.out])
        have d0 := hc 0 _ rfl
        have d1 := hc 1 _ rfl
        simp only [Nat.add_zero] at d0 d1
        clear hc HX
        by_cases e1 : f1 ≤ m
        · have HT := Lib.hid (show stTo L m (k + 1) = (statusAfter (stTo L m k) f0).1 by rw [HS.out]; simp [e1])
          have g1 : decide (f1 ≤ m) = true := by simp [e1]
          go_wp2_with fail
          refine (sStatusAfter_any _ _ _).mono ?_
          rintro e w2 ⟨rfl, rfl⟩
          go_wp2
          go_roundw
          case rel => exact ⟨k + 1, hlt, by go_num, by rw [HT.out], hs.trans hs1⟩
          case measure => simp [intOf]; omega
        · have HT := Lib.hid (show stTo L m k = statusAt L m by
            have := stTo_stop HK.out (show m < (L.getD k (0, 0)).2 by rw [HG.out]; omega) (L.length - k) (by omega)
            rw [show k + (L.length - k) = L.length by omega] at this
            rw [HV.out, this])
          have g1 : decide (f1 ≤ m) = false := by simp; omega
          go_wp2
          go_ret
          exact ⟨ret_int HT.out, hs.trans hs1⟩
      · obtain rfl : k = L.length := by omega
        go_wp2
        go_ret
        exact ⟨ret_int HV.out.symm, hs⟩

set_option maxRecDepth 10000 in
set_option maxHeartbeats 2000000 in
theorem iStatusAt_any (A : Option Addr) (c : Nat) (L : List TEvent) (m : Int) (w : World) (hz : L.length ≤ 1048576) (hA : AtEvent w A L) :
    Calls Tryz.prog 47 #[.slice A L.length c, .int .i64 m] w fun e w' => e = .returned (.int .i64 (statusAt L m)) ∧ Same w w' := by
  have HR := Lib.hid (show statusAt L m = if eventsOk L = true then stTo L m L.length else 0 from rfl)
  have HE := Lib.hid (fun w (h : AtEvent w A L) => iEventsOk_any A c L w hz h)
  cases hk : eventsOk L
  · rw [hk] at HE
    have HV := Lib.hid (show statusAt L m = 0 by rw [HR.out, hk]; rfl)
    clear hk HR
    go_enter Tryz.func47, Tryz.ntmps47
    go_wp2_with fail
    refine (HE.out _ hA).mono ?_
    rintro e w1 ⟨rfl, hs1⟩
    go_wp2
    go_ret
    exact ⟨ret_int HV.out.symm, hs1⟩
  · rw [hk] at HE
    have HV := Lib.hid (show statusAt L m = stTo L m L.length by rw [HR.out, hk]; rfl)
    clear hk HR
    go_enter Tryz.func47, Tryz.ntmps47
    go_wp2_with fail
    refine (HE.out _ hA).mono ?_
    rintro e w1 ⟨rfl, hs1⟩
    go_wp2
    go_loopw [5, 14] (fun t5 i wr => ∃ k : Nat, k ≤ L.length ∧ i = .int .i64 k ∧ t5 = .int .i64 (stTo L m k) ∧ Same w wr) (fun _ i _ => L.length - (intOf i).toNat)
    case atStart => exact ⟨0, Nat.zero_le _, rfl, rfl, hs1⟩
    case round =>
      obtain ⟨k, hk, rfl, rfl, hs⟩ := hrel
      by_cases hlt : k < L.length
      · obtain ⟨b, off, x, rfl, hc, HX, hbl⟩ := (hA.same hs).at_ hlt
        obtain ⟨f0, f1⟩ := x
        have HS := Lib.hid (stTo_succ m HX.out)
        have d0 := hc 0 _ rfl
        have d1 := hc 1 _ rfl
        simp only [Nat.add_zero] at d0 d1
        clear hc HX
        by_cases e1 : f1 ≤ m
        · have HT := Lib.hid (show stTo L m (k + 1) = (statusAfter (stTo L m k) f0).1 by rw [HS.out]; simp [e1])
          have g1 : decide (f1 ≤ m) = true := by simp [e1]
          go_wp2_with fail
          refine (iStatusAfter_any _ _ _).mono ?_
          rintro e w2 ⟨rfl, rfl⟩
          go_wp2
          go_roundw
          case rel => exact ⟨k + 1, hlt, by go_num, by rw [HT.out], hs.alloc _⟩
          case measure => simp [intOf]; omega
        · have HT := Lib.hid (show stTo L m (k + 1) = stTo L m k by rw [HS.out]; simp [e1])
          have g1 : decide (f1 ≤ m) = false := by simp; omega
          go_wp2
          go_roundw
          case rel => exact ⟨k + 1, hlt, by go_num, by rw [HT.out], hs.alloc _⟩
          case measure => simp [intOf]; omega
      · obtain rfl : k = L.length := by omega
        go_wp2
        go_ret
        exact ⟨ret_int HV.out.symm, hs⟩
end Go.Proofs.YtjfmknhnplefnaaGreat
