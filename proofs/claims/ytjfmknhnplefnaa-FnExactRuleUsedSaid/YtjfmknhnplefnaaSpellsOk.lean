/-
  Valid spells.
-/
import Derived.Test.YtjfmknhnplefnaaSeriesOk
namespace Go.Proofs.Ytjfmknhnplefnaa
open Go.RowKit
set_option linter.unusedVariables false

theorem valSp (f t : Int) {b : Bool} (h : (decide (0 ≤ f) && decide (f < t) && decide (t ≤ 3600)) = b) : Hid (∀ w : World, Calls Try.prog 77 #[.int .i64 f, .int .i64 t] w fun e w' => e = .returned (.bool b) ∧ w = w') := fun w => by subst h; exact iSpan_any f t w

set_option maxRecDepth 10000 in
set_option maxHeartbeats 4000000 in
theorem iSpellsOk_any (A : Option Addr) (c : Nat) (L : List TSpell) (w : World) (hz : L.length ≤ 1048576) (hA : AtSpell w A L) :
    Calls Try.prog 65 #[.slice A L.length c] w fun e w' => e = .returned (.bool (spellsOk L)) ∧ Same w w' := by
  go_enter Try.func65, Try.ntmps65
  go_wp2

  go_loopw [7] (fun i wr => ∃ k : Nat, k ≤ L.length ∧ i = .int .i64 k ∧ Hid (allTo (spellAt L) k = true) ∧ Same w wr) (fun i _ => L.length - (intOf i).toNat)
  case atStart => exact ⟨0, Nat.zero_le _, rfl, rfl, Same.refl _⟩
  case round =>
    obtain ⟨k, hk, rfl, Hall, hs⟩ := hrel

    by_cases hlt : k < L.length
    · rcases Nat.eq_zero_or_pos k with h0 | h0
      · obtain ⟨b, off, x, rfl, hc, HX, hbl⟩ := (hA.same hs).at_ hlt
        subst h0
        rw [show ((0 : Nat) : Int) = 0 from rfl]
        obtain ⟨f0, f1, f2, f3⟩ := x
        have HE := Lib.hid (spellAt_zero HX.out)
        have H1 := Lib.hid (fun hp => spellsOk_false (S := L) hlt hp)
        have d0 := hc 0 _ rfl
        have d1 := hc 1 _ rfl
        have d2 := hc 2 _ rfl
        have d3 := hc 3 _ rfl
        simp only [Nat.add_zero, Nat.zero_mul] at d0 d1 d2 d3
        clear hc HX hA
        cases m1 : (decide (0 ≤ f0) && decide (f0 < f1) && decide (f1 ≤ 3600))
        · have HF := Lib.hid (show spellAt L (0) = false by rw [HE.out]; first | (simp [spellOk, m1]; done) | (simp [spellOk, m1]; omega) | (simp [spellOk, m1]; intros; omega))
          have HB := Lib.hid (H1.out HF.out)
          have qm1 := valSp _ _ m1
          clear m1
          go_wp2
          go_quiet ((first | (go_at_call 77; with_reducible exact quiet_left (qm1.out _))))
          go_wp2
          go_ret
          exact ⟨ret_bool HB.out, by first | exact (hs.alloc _).drewN _ | exact hs.drewN _⟩
        · cases m2 : inB f2 1 100
          · have HF := Lib.hid (show spellAt L (0) = false by rw [HE.out]; first | (simp [spellOk, m1, m2]; done) | (simp [spellOk, m1, m2]; omega) | (simp [spellOk, m1, m2]; intros; omega))
            have HB := Lib.hid (H1.out HF.out)
            have qm1 := valSp _ _ m1
            have qm2 := valW _ m2
            clear m1 m2
            go_wp2
            go_quiet ((first | (go_at_call 77; with_reducible exact quiet_left (qm1.out _)) | (go_at_call 64; with_reducible exact quiet_left (qm2.out _))))
            go_wp2
            go_ret
            exact ⟨ret_bool HB.out, by first | exact (hs.alloc _).drewN _ | exact hs.drewN _⟩
          · have HF := Lib.hid (show spellAt L (0) = true by rw [HE.out]; first | (simp [spellOk, m1, m2]; done) | (simp [spellOk, m1, m2]; omega))
            have HT := Lib.hid (show allTo (spellAt L) (0 + 1) = true by rw [allTo, Hall.out, HF.out]; rfl)
            have qm1 := valSp _ _ m1
            have qm2 := valW _ m2
            clear m1 m2
            go_wp2
            go_quiet ((first | (go_at_call 77; with_reducible exact quiet_left (qm1.out _)) | (go_at_call 64; with_reducible exact quiet_left (qm2.out _))))
            go_wp2
            go_roundw
            case rel => exact ⟨0 + 1, by omega, by first | rfl | go_num, HT.out, by first | exact (hs.alloc _).drewN _ | exact hs.drewN _⟩
            case measure => simp [intOf]; omega
      · obtain ⟨j, rfl⟩ : ∃ j, k = j + 1 := ⟨k - 1, by omega⟩
        obtain ⟨b, off, y, x, rfl, hc0, hc, HY, HX, hbl⟩ := (hA.same hs).at2 hlt
        rw [show ((j + 1 : Nat) : Int) = (j : Int) + 1 by omega]
        obtain ⟨p0, p1, p2, p3⟩ := y
        obtain ⟨f0, f1, f2, f3⟩ := x
        have HE := Lib.hid (spellAt_succ HY.out HX.out)
        have H1 := Lib.hid (fun hp => spellsOk_false (S := L) hlt hp)
        have e0 := hc0 0 _ rfl
        have e1 := hc0 1 _ rfl
        have e2 := hc0 2 _ rfl
        have e3 := hc0 3 _ rfl
        have d0 := hc 0 _ rfl
        have d1 := hc 1 _ rfl
        have d2 := hc 2 _ rfl
        have d3 := hc 3 _ rfl
        simp only [Nat.add_zero] at d0 e0
        clear hc hc0 HX HY hA
        have q0 : (0 : Int) < (j : Int) + 1 := by omega
        have q6 : (0 : Int) ≤ (j : Int) + 1 := by omega
        have q1 : (0 : Int) ≤ (j : Int) := by omega
        have q2 : (j : Int) < (L.length : Int) := by omega
        have q3 : (j : Int) + 1 < (L.length : Int) := by omega
        have q4 : IntKind.i64.wrap (j : Int) = (j : Int) := IntWalk.i64_in _ (by omega)
        have q5 : (j : Int) + 1 - 1 = (j : Int) := by omega
        cases m1 : (decide (0 ≤ f0) && decide (f0 < f1) && decide (f1 ≤ 3600))
        · have HF := Lib.hid (show spellAt L (j + 1) = false by rw [HE.out]; first | (simp [spellOk, m1]; done) | (simp [spellOk, m1]; omega) | (simp [spellOk, m1]; intros; omega))
          have HB := Lib.hid (H1.out HF.out)
          have qm1 := valSp _ _ m1
          clear m1
          go_wp2
          go_quiet ((first | (go_at_call 77; with_reducible exact quiet_left (qm1.out _))))
          go_wp2
          go_ret
          exact ⟨ret_bool HB.out, by first | exact (hs.alloc _).drewN _ | exact hs.drewN _⟩
        · cases m2 : inB f2 1 100
          · have HF := Lib.hid (show spellAt L (j + 1) = false by rw [HE.out]; first | (simp [spellOk, m1, m2]; done) | (simp [spellOk, m1, m2]; omega) | (simp [spellOk, m1, m2]; intros; omega))
            have HB := Lib.hid (H1.out HF.out)
            have qm1 := valSp _ _ m1
            have qm2 := valW _ m2
            clear m1 m2
            go_wp2
            go_quiet ((first | (go_at_call 77; with_reducible exact quiet_left (qm1.out _)) | (go_at_call 64; with_reducible exact quiet_left (qm2.out _))))
            go_wp2
            go_ret
            exact ⟨ret_bool HB.out, by first | exact (hs.alloc _).drewN _ | exact hs.drewN _⟩
          · rcases Decidable.em (p1 ≤ f0) with ml | ml
            · have HF := Lib.hid (show spellAt L (j + 1) = true by rw [HE.out]; first | (simp [spellOk, m1, m2, ml]; done) | (simp [spellOk, m1, m2, ml]; omega))
              have HT := Lib.hid (show allTo (spellAt L) (j + 1 + 1) = true by rw [allTo, Hall.out, HF.out]; rfl)
              have qm1 := valSp _ _ m1
              have qm2 := valW _ m2
              clear m1 m2
              go_wp2
              go_quiet ((first | (go_at_call 77; with_reducible exact quiet_left (qm1.out _)) | (go_at_call 64; with_reducible exact quiet_left (qm2.out _))))
              go_wp2
              go_roundw
              case rel => exact ⟨j + 1 + 1, by omega, by first | rfl | go_num, HT.out, by first | exact (hs.alloc _).drewN _ | exact hs.drewN _⟩
              case measure => simp [intOf]; omega
            · have HF := Lib.hid (show spellAt L (j + 1) = false by rw [HE.out]; first | (simp [spellOk, m1, m2, ml]; done) | (simp [spellOk, m1, m2, ml]; omega) | (simp [spellOk, m1, m2, ml]; intros; omega))
              have HB := Lib.hid (H1.out HF.out)
              have qm1 := valSp _ _ m1
              have qm2 := valW _ m2
              clear m1 m2
              go_wp2
              go_quiet ((first | (go_at_call 77; with_reducible exact quiet_left (qm1.out _)) | (go_at_call 64; with_reducible exact quiet_left (qm2.out _))))
              go_wp2
              go_ret
              exact ⟨ret_bool HB.out, by first | exact (hs.alloc _).drewN _ | exact hs.drewN _⟩
    · obtain rfl : k = L.length := by omega
      go_wp2
      go_ret
      exact ⟨ret_bool (by rw [spellsOk, Hall.out]; simp; omega), hs⟩

set_option maxRecDepth 10000 in
set_option maxHeartbeats 4000000 in
theorem sSpellsOk_any (A : Option Addr) (c : Nat) (L : List TSpell) (w : World) (hz : L.length ≤ 1048576) (hA : AtSpell w A L) :
    Calls Try.prog 54 #[.slice A L.length c] w fun e w' => e = .returned (.bool (spellsOk L)) ∧ Same w w' := by
  go_enter Try.func54, Try.ntmps54
  go_wp2

  go_loopw [3] (fun i wr => ∃ k : Nat, k ≤ L.length ∧ i = .int .i64 k ∧ Hid (allTo (spellAt L) k = true) ∧ Same w wr) (fun i _ => L.length - (intOf i).toNat)
  case atStart => exact ⟨0, Nat.zero_le _, rfl, rfl, Same.refl _⟩
  case round =>
    obtain ⟨k, hk, rfl, Hall, hs⟩ := hrel

    by_cases hlt : k < L.length
    · rcases Nat.eq_zero_or_pos k with h0 | h0
      · obtain ⟨b, off, x, rfl, hc, HX, hbl⟩ := (hA.same hs).at_ hlt
        subst h0
        rw [show ((0 : Nat) : Int) = 0 from rfl]
        obtain ⟨f0, f1, f2, f3⟩ := x
        have HE := Lib.hid (spellAt_zero HX.out)
        have H1 := Lib.hid (fun hp => spellsOk_false (S := L) hlt hp)
        have d0 := hc 0 _ rfl
        have d1 := hc 1 _ rfl
        have d2 := hc 2 _ rfl
        have d3 := hc 3 _ rfl
        simp only [Nat.add_zero, Nat.zero_mul] at d0 d1 d2 d3
        clear hc HX hA
        rcases Decidable.em (0 ≤ f0) with m1 | m1
        · rcases Decidable.em (f0 < f1) with m3 | m3
          · rcases Decidable.em (f1 ≤ 3600) with m4 | m4
            · cases m2 : inB f2 1 100
              · have HF := Lib.hid (show spellAt L (0) = false by rw [HE.out]; first | (simp [spellOk, m1, m3, m4, m2]; done) | (simp [spellOk, m1, m3, m4, m2]; omega) | (simp [spellOk, m1, m3, m4, m2]; intros; omega))
                have HB := Lib.hid (H1.out HF.out)
                have qm2 := valWs _ m2
                have dm1 : decide (f0 < 0) = false := by simp; omega
                have dm3 : decide (f1 ≤ f0) = false := by simp; omega
                have dm4 : decide (3600 < f1) = false := by simp; omega
                clear m2
                go_wp2
                go_quiet ((first | (go_at_call 53; with_reducible exact quiet_left (qm2.out _))))
                go_wp2
                go_ret
                exact ⟨ret_bool HB.out, by first | exact (hs.alloc _).drewN _ | exact hs.drewN _⟩
              · have HF := Lib.hid (show spellAt L (0) = true by rw [HE.out]; first | (simp [spellOk, m1, m3, m4, m2]; done) | (simp [spellOk, m1, m3, m4, m2]; omega))
                have HT := Lib.hid (show allTo (spellAt L) (0 + 1) = true by rw [allTo, Hall.out, HF.out]; rfl)
                have qm2 := valWs _ m2
                have dm1 : decide (f0 < 0) = false := by simp; omega
                have dm3 : decide (f1 ≤ f0) = false := by simp; omega
                have dm4 : decide (3600 < f1) = false := by simp; omega
                clear m2
                go_wp2
                go_quiet ((first | (go_at_call 53; with_reducible exact quiet_left (qm2.out _))))
                go_wp2
                go_roundw
                case rel => exact ⟨0 + 1, by omega, by first | rfl | go_num, HT.out, by first | exact (hs.alloc _).drewN _ | exact hs.drewN _⟩
                case measure => simp [intOf]; omega
            · have HF := Lib.hid (show spellAt L (0) = false by rw [HE.out]; first | (simp [spellOk, m1, m3, m4]; done) | (simp [spellOk, m1, m3, m4]; omega) | (simp [spellOk, m1, m3, m4]; intros; omega))
              have HB := Lib.hid (H1.out HF.out)
              have dm1 : decide (f0 < 0) = false := by simp; omega
              have dm3 : decide (f1 ≤ f0) = false := by simp; omega
              have dm4 : decide (3600 < f1) = true := by simp; omega
              go_wp2
              go_quiet (fail)
              go_wp2
              go_ret
              exact ⟨ret_bool HB.out, by first | exact (hs.alloc _).drewN _ | exact hs.drewN _⟩
          · have HF := Lib.hid (show spellAt L (0) = false by rw [HE.out]; first | (simp [spellOk, m1, m3]; done) | (simp [spellOk, m1, m3]; omega) | (simp [spellOk, m1, m3]; intros; omega))
            have HB := Lib.hid (H1.out HF.out)
            have dm1 : decide (f0 < 0) = false := by simp; omega
            have dm3 : decide (f1 ≤ f0) = true := by simp; omega
            go_wp2
            go_quiet (fail)
            go_wp2
            go_ret
            exact ⟨ret_bool HB.out, by first | exact (hs.alloc _).drewN _ | exact hs.drewN _⟩
        · have HF := Lib.hid (show spellAt L (0) = false by rw [HE.out]; first | (simp [spellOk, m1]; done) | (simp [spellOk, m1]; omega) | (simp [spellOk, m1]; intros; omega))
          have HB := Lib.hid (H1.out HF.out)
          have dm1 : decide (f0 < 0) = true := by simp; omega
          go_wp2
          go_quiet (fail)
          go_wp2
          go_ret
          exact ⟨ret_bool HB.out, by first | exact (hs.alloc _).drewN _ | exact hs.drewN _⟩
      · obtain ⟨j, rfl⟩ : ∃ j, k = j + 1 := ⟨k - 1, by omega⟩
        obtain ⟨b, off, y, x, rfl, hc0, hc, HY, HX, hbl⟩ := (hA.same hs).at2 hlt
        rw [show ((j + 1 : Nat) : Int) = (j : Int) + 1 by omega]
        obtain ⟨p0, p1, p2, p3⟩ := y
        obtain ⟨f0, f1, f2, f3⟩ := x
        have HE := Lib.hid (spellAt_succ HY.out HX.out)
        have H1 := Lib.hid (fun hp => spellsOk_false (S := L) hlt hp)
        have e0 := hc0 0 _ rfl
        have e1 := hc0 1 _ rfl
        have e2 := hc0 2 _ rfl
        have e3 := hc0 3 _ rfl
        have d0 := hc 0 _ rfl
        have d1 := hc 1 _ rfl
        have d2 := hc 2 _ rfl
        have d3 := hc 3 _ rfl
        simp only [Nat.add_zero] at d0 e0
        clear hc hc0 HX HY hA
        have q0 : (0 : Int) < (j : Int) + 1 := by omega
        have q6 : (0 : Int) ≤ (j : Int) + 1 := by omega
        have q1 : (0 : Int) ≤ (j : Int) := by omega
        have q2 : (j : Int) < (L.length : Int) := by omega
        have q3 : (j : Int) + 1 < (L.length : Int) := by omega
        have q4 : IntKind.i64.wrap (j : Int) = (j : Int) := IntWalk.i64_in _ (by omega)
        have q5 : (j : Int) + 1 - 1 = (j : Int) := by omega
        rcases Decidable.em (0 ≤ f0) with m1 | m1
        · rcases Decidable.em (f0 < f1) with m3 | m3
          · rcases Decidable.em (f1 ≤ 3600) with m4 | m4
            · cases m2 : inB f2 1 100
              · have HF := Lib.hid (show spellAt L (j + 1) = false by rw [HE.out]; first | (simp [spellOk, m1, m3, m4, m2]; done) | (simp [spellOk, m1, m3, m4, m2]; omega) | (simp [spellOk, m1, m3, m4, m2]; intros; omega))
                have HB := Lib.hid (H1.out HF.out)
                have qm2 := valWs _ m2
                have dm1 : decide (f0 < 0) = false := by simp; omega
                have dm3 : decide (f1 ≤ f0) = false := by simp; omega
                have dm4 : decide (3600 < f1) = false := by simp; omega
                clear m2
                go_wp2
                go_quiet ((first | (go_at_call 53; with_reducible exact quiet_left (qm2.out _))))
                go_wp2
                go_ret
                exact ⟨ret_bool HB.out, by first | exact (hs.alloc _).drewN _ | exact hs.drewN _⟩
              · rcases Decidable.em (p1 ≤ f0) with ml | ml
                · have HF := Lib.hid (show spellAt L (j + 1) = true by rw [HE.out]; first | (simp [spellOk, m1, m3, m4, m2, ml]; done) | (simp [spellOk, m1, m3, m4, m2, ml]; omega))
                  have HT := Lib.hid (show allTo (spellAt L) (j + 1 + 1) = true by rw [allTo, Hall.out, HF.out]; rfl)
                  have qm2 := valWs _ m2
                  have dm1 : decide (f0 < 0) = false := by simp; omega
                  have dm3 : decide (f1 ≤ f0) = false := by simp; omega
                  have dm4 : decide (3600 < f1) = false := by simp; omega
                  clear m2
                  go_wp2
                  go_quiet ((first | (go_at_call 53; with_reducible exact quiet_left (qm2.out _))))
                  go_wp2
                  go_roundw
                  case rel => exact ⟨j + 1 + 1, by omega, by first | rfl | go_num, HT.out, by first | exact (hs.alloc _).drewN _ | exact hs.drewN _⟩
                  case measure => simp [intOf]; omega
                · have HF := Lib.hid (show spellAt L (j + 1) = false by rw [HE.out]; first | (simp [spellOk, m1, m3, m4, m2, ml]; done) | (simp [spellOk, m1, m3, m4, m2, ml]; omega) | (simp [spellOk, m1, m3, m4, m2, ml]; intros; omega))
                  have HB := Lib.hid (H1.out HF.out)
                  have qm2 := valWs _ m2
                  have dm1 : decide (f0 < 0) = false := by simp; omega
                  have dm3 : decide (f1 ≤ f0) = false := by simp; omega
                  have dm4 : decide (3600 < f1) = false := by simp; omega
                  clear m2
                  go_wp2
                  go_quiet ((first | (go_at_call 53; with_reducible exact quiet_left (qm2.out _))))
                  go_wp2
                  go_ret
                  exact ⟨ret_bool HB.out, by first | exact (hs.alloc _).drewN _ | exact hs.drewN _⟩
            · have HF := Lib.hid (show spellAt L (j + 1) = false by rw [HE.out]; first | (simp [spellOk, m1, m3, m4]; done) | (simp [spellOk, m1, m3, m4]; omega) | (simp [spellOk, m1, m3, m4]; intros; omega))
              have HB := Lib.hid (H1.out HF.out)
              have dm1 : decide (f0 < 0) = false := by simp; omega
              have dm3 : decide (f1 ≤ f0) = false := by simp; omega
              have dm4 : decide (3600 < f1) = true := by simp; omega
              go_wp2
              go_quiet (fail)
              go_wp2
              go_ret
              exact ⟨ret_bool HB.out, by first | exact (hs.alloc _).drewN _ | exact hs.drewN _⟩
          · have HF := Lib.hid (show spellAt L (j + 1) = false by rw [HE.out]; first | (simp [spellOk, m1, m3]; done) | (simp [spellOk, m1, m3]; omega) | (simp [spellOk, m1, m3]; intros; omega))
            have HB := Lib.hid (H1.out HF.out)
            have dm1 : decide (f0 < 0) = false := by simp; omega
            have dm3 : decide (f1 ≤ f0) = true := by simp; omega
            go_wp2
            go_quiet (fail)
            go_wp2
            go_ret
            exact ⟨ret_bool HB.out, by first | exact (hs.alloc _).drewN _ | exact hs.drewN _⟩
        · have HF := Lib.hid (show spellAt L (j + 1) = false by rw [HE.out]; first | (simp [spellOk, m1]; done) | (simp [spellOk, m1]; omega) | (simp [spellOk, m1]; intros; omega))
          have HB := Lib.hid (H1.out HF.out)
          have dm1 : decide (f0 < 0) = true := by simp; omega
          go_wp2
          go_quiet (fail)
          go_wp2
          go_ret
          exact ⟨ret_bool HB.out, by first | exact (hs.alloc _).drewN _ | exact hs.drewN _⟩
    · obtain rfl : k = L.length := by omega
      go_wp2
      go_ret
      exact ⟨ret_bool (by rw [spellsOk, Hall.out]; simp; omega), hs⟩

set_option maxHeartbeats 1000000 in
theorem iStatusAfter_any (s k : Int) (w : World) : Calls Try.prog 79 #[.int .i64 s, .int .i64 k] w fun e w' => e = .returned (.tuple #[.int .i64 (statusAfter s k).1, .bool (statusAfter s k).2]) ∧ w = w' := by
  have HS := Lib.hid (show ∀ s k : Int, statusAfter s k = if k = 1 ∧ (s = 0 ∨ s = 2) then (1, true) else if k = 2 ∧ s = 1 then (2, true) else if k = 3 ∧ (s = 1 ∨ s = 2) then (3, true) else if k = 4 ∧ 1 ≤ s ∧ s ≤ 3 then (4, true) else (s, false) from fun _ _ => rfl)
  go_enter Try.func79, Try.ntmps79
  go_wp2_with (go_at_call 64; refine (within_any _ _ _ _).mono ?_; rintro e w' ⟨rfl, rfl⟩)
  all_goals (try go_ret2)
  all_goals refine ⟨?_, rfl⟩
  all_goals rw [HS.out]
  all_goals clear HS
  all_goals (try simp only [beq_iff_eq, beq_eq_false_iff_ne, inB_iff, ne_eq, inB_false] at *)
  all_goals (repeat' split)
  all_goals first | rfl | (exfalso; omega) | (simp only [Array.getD, List.size_toArray, List.length_cons]; congr 1; simp; omega) | (simp; omega)
set_option maxHeartbeats 1000000 in
theorem sStatusAfter_any (s k : Int) (w : World) : Calls Try.prog 75 #[.int .i64 s, .int .i64 k] w fun e w' => e = .returned (.tuple #[.int .i64 (statusAfter s k).1, .bool (statusAfter s k).2]) ∧ w = w' := by
  have HS := Lib.hid (show ∀ s k : Int, statusAfter s k = if k = 1 ∧ (s = 0 ∨ s = 2) then (1, true) else if k = 2 ∧ s = 1 then (2, true) else if k = 3 ∧ (s = 1 ∨ s = 2) then (3, true) else if k = 4 ∧ 1 ≤ s ∧ s ≤ 3 then (4, true) else (s, false) from fun _ _ => rfl)
  go_enter Try.func75, Try.ntmps75
  go_wp2_with (go_at_call 53; refine (l01In_any _ _ _ _).mono ?_; rintro e w' ⟨rfl, rfl⟩)
  all_goals (try go_ret2)
  all_goals refine ⟨?_, rfl⟩
  all_goals rw [HS.out]
  all_goals clear HS
  all_goals (try simp only [beq_iff_eq, beq_eq_false_iff_ne, inB_iff, ne_eq, inB_false] at *)
  all_goals (repeat' split)
  all_goals first | rfl | (exfalso; omega) | (simp only [Array.getD, List.size_toArray, List.length_cons]; congr 1; simp; omega) | (simp; omega)
end Go.Proofs.Ytjfmknhnplefnaa
