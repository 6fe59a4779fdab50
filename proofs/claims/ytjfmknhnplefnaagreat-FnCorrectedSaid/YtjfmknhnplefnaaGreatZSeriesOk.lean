/-
  Valid series and spells.
-/
import Derived.Test.YtjfmknhnplefnaaGreatZRuleOk
import Derived.Test.YtjfmknhnplefnaaGreatZCaseRec
namespace Go.Proofs.YtjfmknhnplefnaaGreat
open Go.RowKit
set_option linter.unusedVariables false

theorem valM (n : Int) {b : Bool} (h : inB n 0 3599 = b) : Hid (∀ w : World, Calls Tryz.prog 58 #[.int .i64 n] w fun e w' => e = .returned (.bool b) ∧ w = w') := fun w => by subst h; exact iMonthOk_any n w
theorem valMs (n : Int) {b : Bool} (h : inB n 0 3599 = b) : Hid (∀ w : World, Calls Tryz.prog 114 #[.int .i64 n] w fun e w' => e = .returned (.bool b) ∧ w = w') := fun w => by subst h; exact sMonthOk_any n w
theorem valW {lo hi : Int} (n : Int) {b : Bool} (h : inB n lo hi = b) : Hid (∀ w : World, Calls Tryz.prog 110 #[.int .i64 n, .int .i64 lo, .int .i64 hi] w fun e w' => e = .returned (.bool b) ∧ w = w') := fun w => by subst h; exact within_any n lo hi w
theorem valWs {lo hi : Int} (n : Int) {b : Bool} (h : inB n lo hi = b) : Hid (∀ w : World, Calls Tryz.prog 115 #[.int .i64 n, .int .i64 lo, .int .i64 hi] w fun e w' => e = .returned (.bool b) ∧ w = w') := fun w => by subst h; exact l01In_any n lo hi w

set_option maxRecDepth 10000 in
set_option maxHeartbeats 4000000 in
theorem iSeriesOk_any (A : Option Addr) (c : Nat) (L : List TPoint) (w : World) (hz : L.length ≤ 1048576) (hA : AtPoint w A L) :
    Calls Tryz.prog 51 #[.agg #[.slice A L.length c]] w fun e w' => e = .returned (.bool (seriesOk L)) ∧ Same w w' := by
  go_enter Tryz.func51, Tryz.ntmps51
  go_wp2
  have h1 : BoxAt (w.alloc (.cells #[.slice A L.length c] 32)) (w.heap.size) 32 [.slice A L.length c] := by simpa using (BoxAt.new w 32 [.slice A L.length c])
  have hs0 := (Same.alloc (Same.refl w) (.cells #[.slice A L.length c] 32))
  generalize (w.alloc (.cells #[.slice A L.length c] 32)) = w0 at *
  replace hA := hA.same hs0
  have hl0 := h1.lt
  go_loopw [8] (fun i wr => ∃ k : Nat, k ≤ L.length ∧ i = .int .i64 k ∧ Hid (allTo (pointAt L) k = true) ∧ Same w0 wr) (fun i _ => L.length - (intOf i).toNat)
  case atStart => exact ⟨0, Nat.zero_le _, rfl, rfl, Same.refl _⟩
  case round =>
    obtain ⟨k, hk, rfl, Hall, hs⟩ := hrel
    have hb := h1.same hs
    have b0 := hb.cell 0 rfl
    have hbl0 := hb.lt
    clear h1
    by_cases hlt : k < L.length
    · rcases Nat.eq_zero_or_pos k with h0 | h0
      · obtain ⟨b, off, x, rfl, hc, HX, hbl⟩ := (hA.same hs).at_ hlt
        subst h0
        rw [show ((0 : Nat) : Int) = 0 from rfl]
        obtain ⟨f0, f1, f2⟩ := x
        have HE := Lib.hid (pointAt_zero HX.out)
        have H1 := Lib.hid (fun hp => seriesOk_false (P := L) hlt hp)
        have d0 := hc 0 _ rfl
        have d1 := hc 1 _ rfl
        have d2 := hc 2 _ rfl
        simp only [Nat.add_zero, Nat.zero_mul] at d0 d1 d2
        clear hc HX hA
        cases m1 : inB f0 0 3599
        · have HF := Lib.hid (show pointAt L (0) = false by rw [HE.out]; first | (simp [pointOk, m1]; done) | (simp [pointOk, m1]; omega) | (simp [pointOk, m1]; intros; omega))
          have HB := Lib.hid (H1.out HF.out)
          have qm1 := valM _ m1
          clear m1
          go_wp2
          go_quiet ((first | (go_at_call 58; with_reducible exact quiet_left (qm1.out _))))
          go_wp2
          go_ret
          exact ⟨ret_bool HB.out, hs0.trans (by first | exact (hs.alloc _).drewN _ | exact hs.drewN _)⟩
        · cases m2 : inB f1 0 3599
          · have HF := Lib.hid (show pointAt L (0) = false by rw [HE.out]; first | (simp [pointOk, m1, m2]; done) | (simp [pointOk, m1, m2]; omega) | (simp [pointOk, m1, m2]; intros; omega))
            have HB := Lib.hid (H1.out HF.out)
            have qm1 := valM _ m1
            have qm2 := valM _ m2
            clear m1 m2
            go_wp2
            go_quiet ((first | (go_at_call 58; with_reducible exact quiet_left (qm1.out _)) | (go_at_call 58; with_reducible exact quiet_left (qm2.out _))))
            go_wp2
            go_ret
            exact ⟨ret_bool HB.out, hs0.trans (by first | exact (hs.alloc _).drewN _ | exact hs.drewN _)⟩
          · rcases Decidable.em (f0 ≤ f1) with m3 | m3
            · cases m4 : inB f2 1 1000000
              · have HF := Lib.hid (show pointAt L (0) = false by rw [HE.out]; first | (simp [pointOk, m1, m2, m3, m4]; done) | (simp [pointOk, m1, m2, m3, m4]; omega) | (simp [pointOk, m1, m2, m3, m4]; intros; omega))
                have HB := Lib.hid (H1.out HF.out)
                have qm1 := valM _ m1
                have qm2 := valM _ m2
                have qm4 := valW _ m4
                have dm3 : decide (f1 < f0) = false := by simp; omega
                clear m1 m2 m4
                go_wp2
                go_quiet ((first | (go_at_call 58; with_reducible exact quiet_left (qm1.out _)) | (go_at_call 58; with_reducible exact quiet_left (qm2.out _)) | (go_at_call 110; with_reducible exact quiet_left (qm4.out _))))
                go_wp2
                go_ret
                exact ⟨ret_bool HB.out, hs0.trans (by first | exact (hs.alloc _).drewN _ | exact hs.drewN _)⟩
              · have HF := Lib.hid (show pointAt L (0) = true by rw [HE.out]; first | (simp [pointOk, m1, m2, m3, m4]; done) | (simp [pointOk, m1, m2, m3, m4]; omega))
                have HT := Lib.hid (show allTo (pointAt L) (0 + 1) = true by rw [allTo, Hall.out, HF.out]; rfl)
                have qm1 := valM _ m1
                have qm2 := valM _ m2
                have qm4 := valW _ m4
                have dm3 : decide (f1 < f0) = false := by simp; omega
                clear m1 m2 m4
                go_wp2
                go_quiet ((first | (go_at_call 58; with_reducible exact quiet_left (qm1.out _)) | (go_at_call 58; with_reducible exact quiet_left (qm2.out _)) | (go_at_call 110; with_reducible exact quiet_left (qm4.out _))))
                go_wp2
                go_roundw
                case rel => exact ⟨0 + 1, by omega, by first | rfl | go_num, HT.out, by first | exact (hs.alloc _).drewN _ | exact hs.drewN _⟩
                case measure => simp [intOf]; omega
            · have HF := Lib.hid (show pointAt L (0) = false by rw [HE.out]; first | (simp [pointOk, m1, m2, m3]; done) | (simp [pointOk, m1, m2, m3]; omega) | (simp [pointOk, m1, m2, m3]; intros; omega))
              have HB := Lib.hid (H1.out HF.out)
              have qm1 := valM _ m1
              have qm2 := valM _ m2
              have dm3 : decide (f1 < f0) = true := by simp; omega
              clear m1 m2
              go_wp2
              go_quiet ((first | (go_at_call 58; with_reducible exact quiet_left (qm1.out _)) | (go_at_call 58; with_reducible exact quiet_left (qm2.out _))))
              go_wp2
              go_ret
              exact ⟨ret_bool HB.out, hs0.trans (by first | exact (hs.alloc _).drewN _ | exact hs.drewN _)⟩
      · obtain ⟨j, rfl⟩ : ∃ j, k = j + 1 := ⟨k - 1, by omega⟩
        obtain ⟨b, off, y, x, rfl, hc0, hc, HY, HX, hbl⟩ := (hA.same hs).at2 hlt
        rw [show ((j + 1 : Nat) : Int) = (j : Int) + 1 by omega]
        obtain ⟨p0, p1, p2⟩ := y
        obtain ⟨f0, f1, f2⟩ := x
        have HE := Lib.hid (pointAt_succ HY.out HX.out)
        have H1 := Lib.hid (fun hp => seriesOk_false (P := L) hlt hp)
        have e0 := hc0 0 _ rfl
        have e1 := hc0 1 _ rfl
        have e2 := hc0 2 _ rfl
        have d0 := hc 0 _ rfl
        have d1 := hc 1 _ rfl
        have d2 := hc 2 _ rfl
        simp only [Nat.add_zero] at d0 e0
        clear hc hc0 HX HY hA
        have q0 : (0 : Int) < (j : Int) + 1 := by omega
        have q6 : (0 : Int) ≤ (j : Int) + 1 := by omega
        have q1 : (0 : Int) ≤ (j : Int) := by omega
        have q2 : (j : Int) < (L.length : Int) := by omega
        have q3 : (j : Int) + 1 < (L.length : Int) := by omega
        have q4 : IntKind.i64.wrap (j : Int) = (j : Int) := IntWalk.i64_in _ (by omega)
        have q5 : (j : Int) + 1 - 1 = (j : Int) := by omega
        cases m1 : inB f0 0 3599
        · have HF := Lib.hid (show pointAt L (j + 1) = false by rw [HE.out]; first | (simp [pointOk, m1]; done) | (simp [pointOk, m1]; omega) | (simp [pointOk, m1]; intros; omega))
          have HB := Lib.hid (H1.out HF.out)
          have qm1 := valM _ m1
          clear m1
          go_wp2
          go_quiet ((first | (go_at_call 58; with_reducible exact quiet_left (qm1.out _))))
          go_wp2
          go_ret
          exact ⟨ret_bool HB.out, hs0.trans (by first | exact (hs.alloc _).drewN _ | exact hs.drewN _)⟩
        · cases m2 : inB f1 0 3599
          · have HF := Lib.hid (show pointAt L (j + 1) = false by rw [HE.out]; first | (simp [pointOk, m1, m2]; done) | (simp [pointOk, m1, m2]; omega) | (simp [pointOk, m1, m2]; intros; omega))
            have HB := Lib.hid (H1.out HF.out)
            have qm1 := valM _ m1
            have qm2 := valM _ m2
            clear m1 m2
            go_wp2
            go_quiet ((first | (go_at_call 58; with_reducible exact quiet_left (qm1.out _)) | (go_at_call 58; with_reducible exact quiet_left (qm2.out _))))
            go_wp2
            go_ret
            exact ⟨ret_bool HB.out, hs0.trans (by first | exact (hs.alloc _).drewN _ | exact hs.drewN _)⟩
          · rcases Decidable.em (f0 ≤ f1) with m3 | m3
            · cases m4 : inB f2 1 1000000
              · have HF := Lib.hid (show pointAt L (j + 1) = false by rw [HE.out]; first | (simp [pointOk, m1, m2, m3, m4]; done) | (simp [pointOk, m1, m2, m3, m4]; omega) | (simp [pointOk, m1, m2, m3, m4]; intros; omega))
                have HB := Lib.hid (H1.out HF.out)
                have qm1 := valM _ m1
                have qm2 := valM _ m2
                have qm4 := valW _ m4
                have dm3 : decide (f1 < f0) = false := by simp; omega
                clear m1 m2 m4
                go_wp2
                go_quiet ((first | (go_at_call 58; with_reducible exact quiet_left (qm1.out _)) | (go_at_call 58; with_reducible exact quiet_left (qm2.out _)) | (go_at_call 110; with_reducible exact quiet_left (qm4.out _))))
                go_wp2
                go_ret
                exact ⟨ret_bool HB.out, hs0.trans (by first | exact (hs.alloc _).drewN _ | exact hs.drewN _)⟩
              · rcases Decidable.em (p1 ≤ f1) with ml | ml
                · have HF := Lib.hid (show pointAt L (j + 1) = true by rw [HE.out]; first | (simp [pointOk, m1, m2, m3, m4, ml]; done) | (simp [pointOk, m1, m2, m3, m4, ml]; omega))
                  have HT := Lib.hid (show allTo (pointAt L) (j + 1 + 1) = true by rw [allTo, Hall.out, HF.out]; rfl)
                  have qm1 := valM _ m1
                  have qm2 := valM _ m2
                  have qm4 := valW _ m4
                  have dm3 : decide (f1 < f0) = false := by simp; omega
                  clear m1 m2 m4
                  go_wp2
                  go_quiet ((first | (go_at_call 58; with_reducible exact quiet_left (qm1.out _)) | (go_at_call 58; with_reducible exact quiet_left (qm2.out _)) | (go_at_call 110; with_reducible exact quiet_left (qm4.out _))))
                  go_wp2
                  go_roundw
                  case rel => exact ⟨j + 1 + 1, by omega, by first | rfl | go_num, HT.out, by first | exact (hs.alloc _).drewN _ | exact hs.drewN _⟩
                  case measure => simp [intOf]; omega
                · have HF := Lib.hid (show pointAt L (j + 1) = false by rw [HE.out]; first | (simp [pointOk, m1, m2, m3, m4, ml]; done) | (simp [pointOk, m1, m2, m3, m4, ml]; omega) | (simp [pointOk, m1, m2, m3, m4, ml]; intros; omega))
                  have HB := Lib.hid (H1.out HF.out)
                  have qm1 := valM _ m1
                  have qm2 := valM _ m2
                  have qm4 := valW _ m4
                  have dm3 : decide (f1 < f0) = false := by simp; omega
                  clear m1 m2 m4
                  go_wp2
                  go_quiet ((first | (go_at_call 58; with_reducible exact quiet_left (qm1.out _)) | (go_at_call 58; with_reducible exact quiet_left (qm2.out _)) | (go_at_call 110; with_reducible exact quiet_left (qm4.out _))))
                  go_wp2
                  go_ret
                  exact ⟨ret_bool HB.out, hs0.trans (by first | exact (hs.alloc _).drewN _ | exact hs.drewN _)⟩
            · have HF := Lib.hid (show pointAt L (j + 1) = false by rw [HE.out]; first | (simp [pointOk, m1, m2, m3]; done) | (simp [pointOk, m1, m2, m3]; omega) | (simp [pointOk, m1, m2, m3]; intros; omega))
              have HB := Lib.hid (H1.out HF.out)
              have qm1 := valM _ m1
              have qm2 := valM _ m2
              have dm3 : decide (f1 < f0) = true := by simp; omega
              clear m1 m2
              go_wp2
              go_quiet ((first | (go_at_call 58; with_reducible exact quiet_left (qm1.out _)) | (go_at_call 58; with_reducible exact quiet_left (qm2.out _))))
              go_wp2
              go_ret
              exact ⟨ret_bool HB.out, hs0.trans (by first | exact (hs.alloc _).drewN _ | exact hs.drewN _)⟩
    · obtain rfl : k = L.length := by omega
      go_wp2
      go_ret
      exact ⟨ret_bool (by rw [seriesOk, Hall.out]; simp; omega), hs0.trans hs⟩

set_option maxRecDepth 10000 in
set_option maxHeartbeats 4000000 in
theorem sSeriesOk_any (A : Option Addr) (c : Nat) (L : List TPoint) (w : World) (hz : L.length ≤ 1048576) (hA : AtPoint w A L) :
    Calls Tryz.prog 54 #[.agg #[.slice A L.length c]] w fun e w' => e = .returned (.bool (seriesOk L)) ∧ Same w w' := by
  go_enter Tryz.func54, Tryz.ntmps54
  go_wp2
  have h1 : BoxAt (w.alloc (.cells #[.slice A L.length c] 32)) (w.heap.size) 32 [.slice A L.length c] := by simpa using (BoxAt.new w 32 [.slice A L.length c])
  have hs0 := (Same.alloc (Same.refl w) (.cells #[.slice A L.length c] 32))
  generalize (w.alloc (.cells #[.slice A L.length c] 32)) = w0 at *
  replace hA := hA.same hs0
  have hl0 := h1.lt
  go_loopw [3] (fun i wr => ∃ k : Nat, k ≤ L.length ∧ i = .int .i64 k ∧ Hid (allTo (pointAt L) k = true) ∧ Same w0 wr) (fun i _ => L.length - (intOf i).toNat)
  case atStart => exact ⟨0, Nat.zero_le _, rfl, rfl, Same.refl _⟩
  case round =>
    obtain ⟨k, hk, rfl, Hall, hs⟩ := hrel
    have hb := h1.same hs
    have b0 := hb.cell 0 rfl
    have hbl0 := hb.lt
    clear h1
    by_cases hlt : k < L.length
    · rcases Nat.eq_zero_or_pos k with h0 | h0
      · obtain ⟨b, off, x, rfl, hc, HX, hbl⟩ := (hA.same hs).at_ hlt
        subst h0
        rw [show ((0 : Nat) : Int) = 0 from rfl]
        obtain ⟨f0, f1, f2⟩ := x
        have HE := Lib.hid (pointAt_zero HX.out)
        have H1 := Lib.hid (fun hp => seriesOk_false (P := L) hlt hp)
        have d0 := hc 0 _ rfl
        have d1 := hc 1 _ rfl
        have d2 := hc 2 _ rfl
        simp only [Nat.add_zero, Nat.zero_mul] at d0 d1 d2
        clear hc HX hA
        cases m1 : inB f0 0 3599
        · have HF := Lib.hid (show pointAt L (0) = false by rw [HE.out]; first | (simp [pointOk, m1]; done) | (simp [pointOk, m1]; omega) | (simp [pointOk, m1]; intros; omega))
          have HB := Lib.hid (H1.out HF.out)
          have qm1 := valMs _ m1
          clear m1
          go_wp2
          go_quiet ((first | (go_at_call 114; with_reducible exact quiet_left (qm1.out _))))
          go_wp2
          go_ret
          exact ⟨ret_bool HB.out, hs0.trans (by first | exact (hs.alloc _).drewN _ | exact hs.drewN _)⟩
        · cases m2 : inB f1 0 3599
          · have HF := Lib.hid (show pointAt L (0) = false by rw [HE.out]; first | (simp [pointOk, m1, m2]; done) | (simp [pointOk, m1, m2]; omega) | (simp [pointOk, m1, m2]; intros; omega))
            have HB := Lib.hid (H1.out HF.out)
            have qm1 := valMs _ m1
            have qm2 := valMs _ m2
            clear m1 m2
            go_wp2
            go_quiet ((first | (go_at_call 114; with_reducible exact quiet_left (qm1.out _)) | (go_at_call 114; with_reducible exact quiet_left (qm2.out _))))
            go_wp2
            go_ret
            exact ⟨ret_bool HB.out, hs0.trans (by first | exact (hs.alloc _).drewN _ | exact hs.drewN _)⟩
          · rcases Decidable.em (f0 ≤ f1) with m3 | m3
            · cases m4 : inB f2 1 1000000
              · have HF := Lib.hid (show pointAt L (0) = false by rw [HE.out]; first | (simp [pointOk, m1, m2, m3, m4]; done) | (simp [pointOk, m1, m2, m3, m4]; omega) | (simp [pointOk, m1, m2, m3, m4]; intros; omega))
                have HB := Lib.hid (H1.out HF.out)
                have qm1 := valMs _ m1
                have qm2 := valMs _ m2
                have qm4 := valWs _ m4
                have dm3 : decide (f1 < f0) = false := by simp; omega
                clear m1 m2 m4
                go_wp2
                go_quiet ((first | (go_at_call 114; with_reducible exact quiet_left (qm1.out _)) | (go_at_call 114; with_reducible exact quiet_left (qm2.out _)) | (go_at_call 115; with_reducible exact quiet_left (qm4.out _))))
                go_wp2
                go_ret
                exact ⟨ret_bool HB.out, hs0.trans (by first | exact (hs.alloc _).drewN _ | exact hs.drewN _)⟩
              · have HF := Lib.hid (show pointAt L (0) = true by rw [HE.out]; first | (simp [pointOk, m1, m2, m3, m4]; done) | (simp [pointOk, m1, m2, m3, m4]; omega))
                have HT := Lib.hid (show allTo (pointAt L) (0 + 1) = true by rw [allTo, Hall.out, HF.out]; rfl)
                have qm1 := valMs _ m1
                have qm2 := valMs _ m2
                have qm4 := valWs _ m4
                have dm3 : decide (f1 < f0) = false := by simp; omega
                clear m1 m2 m4
                go_wp2
                go_quiet ((first | (go_at_call 114; with_reducible exact quiet_left (qm1.out _)) | (go_at_call 114; with_reducible exact quiet_left (qm2.out _)) | (go_at_call 115; with_reducible exact quiet_left (qm4.out _))))
                go_wp2
                go_roundw
                case rel => exact ⟨0 + 1, by omega, by first | rfl | go_num, HT.out, by first | exact (hs.alloc _).drewN _ | exact hs.drewN _⟩
                case measure => simp [intOf]; omega
            · have HF := Lib.hid (show pointAt L (0) = false by rw [HE.out]; first | (simp [pointOk, m1, m2, m3]; done) | (simp [pointOk, m1, m2, m3]; omega) | (simp [pointOk, m1, m2, m3]; intros; omega))
              have HB := Lib.hid (H1.out HF.out)
              have qm1 := valMs _ m1
              have qm2 := valMs _ m2
              have dm3 : decide (f1 < f0) = true := by simp; omega
              clear m1 m2
              go_wp2
              go_quiet ((first | (go_at_call 114; with_reducible exact quiet_left (qm1.out _)) | (go_at_call 114; with_reducible exact quiet_left (qm2.out _))))
              go_wp2
              go_ret
              exact ⟨ret_bool HB.out, hs0.trans (by first | exact (hs.alloc _).drewN _ | exact hs.drewN _)⟩
      · obtain ⟨j, rfl⟩ : ∃ j, k = j + 1 := ⟨k - 1, by omega⟩
        obtain ⟨b, off, y, x, rfl, hc0, hc, HY, HX, hbl⟩ := (hA.same hs).at2 hlt
        rw [show ((j + 1 : Nat) : Int) = (j : Int) + 1 by omega]
        obtain ⟨p0, p1, p2⟩ := y
        obtain ⟨f0, f1, f2⟩ := x
        have HE := Lib.hid (pointAt_succ HY.out HX.out)
        have H1 := Lib.hid (fun hp => seriesOk_false (P := L) hlt hp)
        have e0 := hc0 0 _ rfl
        have e1 := hc0 1 _ rfl
        have e2 := hc0 2 _ rfl
        have d0 := hc 0 _ rfl
        have d1 := hc 1 _ rfl
        have d2 := hc 2 _ rfl
        simp only [Nat.add_zero] at d0 e0
        clear hc hc0 HX HY hA
        have q0 : (0 : Int) < (j : Int) + 1 := by omega
        have q6 : (0 : Int) ≤ (j : Int) + 1 := by omega
        have q1 : (0 : Int) ≤ (j : Int) := by omega
        have q2 : (j : Int) < (L.length : Int) := by omega
        have q3 : (j : Int) + 1 < (L.length : Int) := by omega
        have q4 : IntKind.i64.wrap (j : Int) = (j : Int) := IntWalk.i64_in _ (by omega)
        have q5 : (j : Int) + 1 - 1 = (j : Int) := by omega
        cases m1 : inB f0 0 3599
        · have HF := Lib.hid (show pointAt L (j + 1) = false by rw [HE.out]; first | (simp [pointOk, m1]; done) | (simp [pointOk, m1]; omega) | (simp [pointOk, m1]; intros; omega))
          have HB := Lib.hid (H1.out HF.out)
          have qm1 := valMs _ m1
          clear m1
          go_wp2
          go_quiet ((first | (go_at_call 114; with_reducible exact quiet_left (qm1.out _))))
          go_wp2
          go_ret
          exact ⟨ret_bool HB.out, hs0.trans (by first | exact (hs.alloc _).drewN _ | exact hs.drewN _)⟩
        · cases m2 : inB f1 0 3599
          · have HF := Lib.hid (show pointAt L (j + 1) = false by rw [HE.out]; first | (simp [pointOk, m1, m2]; done) | (simp [pointOk, m1, m2]; omega) | (simp [pointOk, m1, m2]; intros; omega))
            have HB := Lib.hid (H1.out HF.out)
            have qm1 := valMs _ m1
            have qm2 := valMs _ m2
            clear m1 m2
            go_wp2
            go_quiet ((first | (go_at_call 114; with_reducible exact quiet_left (qm1.out _)) | (go_at_call 114; with_reducible exact quiet_left (qm2.out _))))
            go_wp2
            go_ret
            exact ⟨ret_bool HB.out, hs0.trans (by first | exact (hs.alloc _).drewN _ | exact hs.drewN _)⟩
          · rcases Decidable.em (f0 ≤ f1) with m3 | m3
            · cases m4 : inB f2 1 1000000
              · have HF := Lib.hid (show pointAt L (j + 1) = false by rw [HE.out]; first | (simp [pointOk, m1, m2, m3, m4]; done) | (simp [pointOk, m1, m2, m3, m4]; omega) | (simp [pointOk, m1, m2, m3, m4]; intros; omega))
                have HB := Lib.hid (H1.out HF.out)
                have qm1 := valMs _ m1
                have qm2 := valMs _ m2
                have qm4 := valWs _ m4
                have dm3 : decide (f1 < f0) = false := by simp; omega
                clear m1 m2 m4
                go_wp2
                go_quiet ((first | (go_at_call 114; with_reducible exact quiet_left (qm1.out _)) | (go_at_call 114; with_reducible exact quiet_left (qm2.out _)) | (go_at_call 115; with_reducible exact quiet_left (qm4.out _))))
                go_wp2
                go_ret
                exact ⟨ret_bool HB.out, hs0.trans (by first | exact (hs.alloc _).drewN _ | exact hs.drewN _)⟩
              · rcases Decidable.em (p1 ≤ f1) with ml | ml
                · have HF := Lib.hid (show pointAt L (j + 1) = true by rw [HE.out]; first | (simp [pointOk, m1, m2, m3, m4, ml]; done) | (simp [pointOk, m1, m2, m3, m4, ml]; omega))
                  have HT := Lib.hid (show allTo (pointAt L) (j + 1 + 1) = true by rw [allTo, Hall.out, HF.out]; rfl)
                  have qm1 := valMs _ m1
                  have qm2 := valMs _ m2
                  have qm4 := valWs _ m4
                  have dm3 : decide (f1 < f0) = false := by simp; omega
                  clear m1 m2 m4
                  go_wp2
                  go_quiet ((first | (go_at_call 114; with_reducible exact quiet_left (qm1.out _)) | (go_at_call 114; with_reducible exact quiet_left (qm2.out _)) | (go_at_call 115; with_reducible exact quiet_left (qm4.out _))))
                  go_wp2
                  go_roundw
                  case rel => exact ⟨j + 1 + 1, by omega, by first | rfl | go_num, HT.out, by first | exact (hs.alloc _).drewN _ | exact hs.drewN _⟩
                  case measure => simp [intOf]; omega
                · have HF := Lib.hid (show pointAt L (j + 1) = false by rw [HE.out]; first | (simp [pointOk, m1, m2, m3, m4, ml]; done) | (simp [pointOk, m1, m2, m3, m4, ml]; omega) | (simp [pointOk, m1, m2, m3, m4, ml]; intros; omega))
                  have HB := Lib.hid (H1.out HF.out)
                  have qm1 := valMs _ m1
                  have qm2 := valMs _ m2
                  have qm4 := valWs _ m4
                  have dm3 : decide (f1 < f0) = false := by simp; omega
                  clear m1 m2 m4
                  go_wp2
                  go_quiet ((first | (go_at_call 114; with_reducible exact quiet_left (qm1.out _)) | (go_at_call 114; with_reducible exact quiet_left (qm2.out _)) | (go_at_call 115; with_reducible exact quiet_left (qm4.out _))))
                  go_wp2
                  go_ret
                  exact ⟨ret_bool HB.out, hs0.trans (by first | exact (hs.alloc _).drewN _ | exact hs.drewN _)⟩
            · have HF := Lib.hid (show pointAt L (j + 1) = false by rw [HE.out]; first | (simp [pointOk, m1, m2, m3]; done) | (simp [pointOk, m1, m2, m3]; omega) | (simp [pointOk, m1, m2, m3]; intros; omega))
              have HB := Lib.hid (H1.out HF.out)
              have qm1 := valMs _ m1
              have qm2 := valMs _ m2
              have dm3 : decide (f1 < f0) = true := by simp; omega
              clear m1 m2
              go_wp2
              go_quiet ((first | (go_at_call 114; with_reducible exact quiet_left (qm1.out _)) | (go_at_call 114; with_reducible exact quiet_left (qm2.out _))))
              go_wp2
              go_ret
              exact ⟨ret_bool HB.out, hs0.trans (by first | exact (hs.alloc _).drewN _ | exact hs.drewN _)⟩
    · obtain rfl : k = L.length := by omega
      go_wp2
      go_ret
      exact ⟨ret_bool (by rw [seriesOk, Hall.out]; simp; omega), hs0.trans hs⟩
end Go.Proofs.YtjfmknhnplefnaaGreat
