/-
  Valid events and members.
-/
import Derived.Test.YtjfmknhnplefnaaGreatZSpellsOk
namespace Go.Proofs.YtjfmknhnplefnaaGreat
open Go.RowKit
set_option linter.unusedVariables false
set_option linter.unusedSimpArgs false

set_option maxRecDepth 10000 in
set_option maxHeartbeats 4000000 in
theorem iEventsOk_any (A : Option Addr) (c : Nat) (L : List TEvent) (w : World) (hz : L.length ≤ 1048576) (hA : AtEvent w A L) :
    Calls Tryz.prog 74 #[.slice A L.length c] w fun e w' => e = .returned (.bool (eventsOk L)) ∧ Same w w' := by
  go_enter Tryz.func74, Tryz.ntmps74
  go_wp2
  go_loopw [3, 9] (fun t3 i wr => ∃ k : Nat, k ≤ L.length ∧ i = .int .i64 k ∧ t3 = .int .i64 (statTo L k) ∧ Hid (allTo (eventAt L) k = true) ∧ Same w wr) (fun _ i _ => L.length - (intOf i).toNat)
  case atStart => exact ⟨0, Nat.zero_le _, rfl, rfl, rfl, Same.refl _⟩
  case round =>
    obtain ⟨k, hk, rfl, rfl, Hall, hs⟩ := hrel
    by_cases hlt : k < L.length
    · rcases Nat.eq_zero_or_pos k with h0 | h0
      · obtain ⟨b, off, x, rfl, hc, HX, hbl⟩ := (hA.same hs).at_ hlt
        subst h0
        rw [show ((0 : Nat) : Int) = 0 from rfl]
        obtain ⟨f0, f1⟩ := x
        have HE := Lib.hid (eventAt_zero HX.out)
        have HSU := Lib.hid (statTo_succ HX.out)
        have H1 := Lib.hid (fun hp => eventsOk_false (E := L) hlt hp)
        have d0 := hc 0 _ rfl
        have d1 := hc 1 _ rfl
        simp only [Nat.add_zero, Nat.zero_mul] at d0 d1
        clear hc HX hA
        cases m1 : (statusAfter (statTo L 0) f0).2
        · have HF := Lib.hid (show eventAt L (0) = false by rw [HE.out]; first | (simp [m1]; done) | (simp [m1]; omega) | (simp [m1]; intros; omega))
          have HB := Lib.hid (H1.out HF.out)
          obtain ⟨s, hs2⟩ : ∃ s, s = statTo L (0) := ⟨_, rfl⟩
          obtain ⟨s2, hs3⟩ : ∃ s2, s2 = (statusAfter s f0).1 := ⟨_, rfl⟩
          have HN := Lib.hid (show statTo L (0 + 1) = s2 by rw [hs3, hs2]; exact HSU.out)
          rw [← hs2] at m1
          rw [← hs2]
          have ST := Lib.hid (fun w : World => show Calls Tryz.prog 105 #[.int .i64 s, .int .i64 f0] w (fun e w' => e = .returned (.tuple #[.int .i64 s2, .bool false]) ∧ w = w') by have := iStatusAfter_any s f0 w; rw [m1, ← hs3] at this; exact this)
          clear hs2 hs3 m1
          go_wp2_with fail
          refine (ST.out _).mono ?_
          rintro e w' ⟨rfl, rfl⟩
          go_wp2
          go_quiet (fail)
          go_wp2
          go_ret
          exact ⟨ret_bool HB.out, by first | exact (hs.alloc _).drewN _ | exact hs.drewN _⟩
        · cases m2 : inB f1 0 3599
          · have HF := Lib.hid (show eventAt L (0) = false by rw [HE.out]; first | (simp [m1, m2]; done) | (simp [m1, m2]; omega) | (simp [m1, m2]; intros; omega))
            have HB := Lib.hid (H1.out HF.out)
            obtain ⟨s, hs2⟩ : ∃ s, s = statTo L (0) := ⟨_, rfl⟩
            obtain ⟨s2, hs3⟩ : ∃ s2, s2 = (statusAfter s f0).1 := ⟨_, rfl⟩
            have HN := Lib.hid (show statTo L (0 + 1) = s2 by rw [hs3, hs2]; exact HSU.out)
            rw [← hs2] at m1
            rw [← hs2]
            have ST := Lib.hid (fun w : World => show Calls Tryz.prog 105 #[.int .i64 s, .int .i64 f0] w (fun e w' => e = .returned (.tuple #[.int .i64 s2, .bool true]) ∧ w = w') by have := iStatusAfter_any s f0 w; rw [m1, ← hs3] at this; exact this)
            have qm2 := valM _ m2
            clear hs2 hs3 m1 m2
            go_wp2_with fail
            refine (ST.out _).mono ?_
            rintro e w' ⟨rfl, rfl⟩
            go_wp2
            go_quiet ((go_at_call 58; with_reducible exact quiet_left (qm2.out _)))
            go_wp2
            go_ret
            exact ⟨ret_bool HB.out, by first | exact (hs.alloc _).drewN _ | exact hs.drewN _⟩
          · have HF := Lib.hid (show eventAt L (0) = true by rw [HE.out]; first | (simp [m1, m2]; done) | (simp [m1, m2]; omega))
            have HT := Lib.hid (show allTo (eventAt L) (0 + 1) = true by rw [allTo, Hall.out, HF.out]; rfl)
            obtain ⟨s, hs2⟩ : ∃ s, s = statTo L (0) := ⟨_, rfl⟩
            obtain ⟨s2, hs3⟩ : ∃ s2, s2 = (statusAfter s f0).1 := ⟨_, rfl⟩
            have HN := Lib.hid (show statTo L (0 + 1) = s2 by rw [hs3, hs2]; exact HSU.out)
            rw [← hs2] at m1
            rw [← hs2]
            have ST := Lib.hid (fun w : World => show Calls Tryz.prog 105 #[.int .i64 s, .int .i64 f0] w (fun e w' => e = .returned (.tuple #[.int .i64 s2, .bool true]) ∧ w = w') by have := iStatusAfter_any s f0 w; rw [m1, ← hs3] at this; exact this)
            have qm2 := valM _ m2
            clear hs2 hs3 m1 m2
            go_wp2_with fail
            refine (ST.out _).mono ?_
            rintro e w' ⟨rfl, rfl⟩
            go_wp2
            go_quiet ((go_at_call 58; with_reducible exact quiet_left (qm2.out _)))
            go_wp2
            go_roundw
            case rel => exact ⟨0 + 1, by omega, by first | rfl | go_num, by rw [HN.out], HT.out, by first | exact (hs.alloc _).drewN _ | exact hs.drewN _⟩
            case measure => simp [intOf]; omega
      · obtain ⟨j, rfl⟩ : ∃ j, k = j + 1 := ⟨k - 1, by omega⟩
        obtain ⟨b, off, y, x, rfl, hc0, hc, HY, HX, hbl⟩ := (hA.same hs).at2 hlt
        rw [show ((j + 1 : Nat) : Int) = (j : Int) + 1 by omega]
        obtain ⟨p0, p1⟩ := y
        obtain ⟨f0, f1⟩ := x
        have HE := Lib.hid (eventAt_succ HY.out HX.out)
        have HSU := Lib.hid (statTo_succ HX.out)
        have H1 := Lib.hid (fun hp => eventsOk_false (E := L) hlt hp)
        have e1 := hc0 1 _ rfl
        have d0 := hc 0 _ rfl
        have d1 := hc 1 _ rfl
        simp only [Nat.add_zero] at d0
        clear hc hc0 HX HY hA
        have q0 : (0 : Int) < (j : Int) + 1 := by omega
        have q6 : (0 : Int) ≤ (j : Int) + 1 := by omega
        have q1 : (0 : Int) ≤ (j : Int) := by omega
        have q2 : (j : Int) < (L.length : Int) := by omega
        have q3 : (j : Int) + 1 < (L.length : Int) := by omega
        have q4 : IntKind.i64.wrap (j : Int) = (j : Int) := IntWalk.i64_in _ (by omega)
        have q5 : (j : Int) + 1 - 1 = (j : Int) := by omega
        cases m1 : (statusAfter (statTo L (j + 1)) f0).2
        · have HF := Lib.hid (show eventAt L (j + 1) = false by rw [HE.out]; first | (simp [m1]; done) | (simp [m1]; omega) | (simp [m1]; intros; omega))
          have HB := Lib.hid (H1.out HF.out)
          obtain ⟨s, hs2⟩ : ∃ s, s = statTo L (j + 1) := ⟨_, rfl⟩
          obtain ⟨s2, hs3⟩ : ∃ s2, s2 = (statusAfter s f0).1 := ⟨_, rfl⟩
          have HN := Lib.hid (show statTo L (j + 1 + 1) = s2 by rw [hs3, hs2]; exact HSU.out)
          rw [← hs2] at m1
          rw [← hs2]
          have ST := Lib.hid (fun w : World => show Calls Tryz.prog 105 #[.int .i64 s, .int .i64 f0] w (fun e w' => e = .returned (.tuple #[.int .i64 s2, .bool false]) ∧ w = w') by have := iStatusAfter_any s f0 w; rw [m1, ← hs3] at this; exact this)
          clear hs2 hs3 m1
          go_wp2_with fail
          refine (ST.out _).mono ?_
          rintro e w' ⟨rfl, rfl⟩
          go_wp2
          go_quiet (fail)
          go_wp2
          go_ret
          exact ⟨ret_bool HB.out, by first | exact (hs.alloc _).drewN _ | exact hs.drewN _⟩
        · cases m2 : inB f1 0 3599
          · have HF := Lib.hid (show eventAt L (j + 1) = false by rw [HE.out]; first | (simp [m1, m2]; done) | (simp [m1, m2]; omega) | (simp [m1, m2]; intros; omega))
            have HB := Lib.hid (H1.out HF.out)
            obtain ⟨s, hs2⟩ : ∃ s, s = statTo L (j + 1) := ⟨_, rfl⟩
            obtain ⟨s2, hs3⟩ : ∃ s2, s2 = (statusAfter s f0).1 := ⟨_, rfl⟩
            have HN := Lib.hid (show statTo L (j + 1 + 1) = s2 by rw [hs3, hs2]; exact HSU.out)
            rw [← hs2] at m1
            rw [← hs2]
            have ST := Lib.hid (fun w : World => show Calls Tryz.prog 105 #[.int .i64 s, .int .i64 f0] w (fun e w' => e = .returned (.tuple #[.int .i64 s2, .bool true]) ∧ w = w') by have := iStatusAfter_any s f0 w; rw [m1, ← hs3] at this; exact this)
            have qm2 := valM _ m2
            clear hs2 hs3 m1 m2
            go_wp2_with fail
            refine (ST.out _).mono ?_
            rintro e w' ⟨rfl, rfl⟩
            go_wp2
            go_quiet ((go_at_call 58; with_reducible exact quiet_left (qm2.out _)))
            go_wp2
            go_ret
            exact ⟨ret_bool HB.out, by first | exact (hs.alloc _).drewN _ | exact hs.drewN _⟩
          · rcases Decidable.em (p1 < f1) with ml | ml
            · have HF := Lib.hid (show eventAt L (j + 1) = true by rw [HE.out]; first | (simp [m1, m2, ml]; done) | (simp [m1, m2, ml]; omega))
              have HT := Lib.hid (show allTo (eventAt L) (j + 1 + 1) = true by rw [allTo, Hall.out, HF.out]; rfl)
              obtain ⟨s, hs2⟩ : ∃ s, s = statTo L (j + 1) := ⟨_, rfl⟩
              obtain ⟨s2, hs3⟩ : ∃ s2, s2 = (statusAfter s f0).1 := ⟨_, rfl⟩
              have HN := Lib.hid (show statTo L (j + 1 + 1) = s2 by rw [hs3, hs2]; exact HSU.out)
              rw [← hs2] at m1
              rw [← hs2]
              have ST := Lib.hid (fun w : World => show Calls Tryz.prog 105 #[.int .i64 s, .int .i64 f0] w (fun e w' => e = .returned (.tuple #[.int .i64 s2, .bool true]) ∧ w = w') by have := iStatusAfter_any s f0 w; rw [m1, ← hs3] at this; exact this)
              have qm2 := valM _ m2
              clear hs2 hs3 m1 m2
              go_wp2_with fail
              refine (ST.out _).mono ?_
              rintro e w' ⟨rfl, rfl⟩
              go_wp2
              go_quiet ((go_at_call 58; with_reducible exact quiet_left (qm2.out _)))
              go_wp2
              go_roundw
              case rel => exact ⟨j + 1 + 1, by omega, by first | rfl | go_num, by rw [HN.out], HT.out, by first | exact (hs.alloc _).drewN _ | exact hs.drewN _⟩
              case measure => simp [intOf]; omega
            · have HF := Lib.hid (show eventAt L (j + 1) = false by rw [HE.out]; first | (simp [m1, m2, ml]; done) | (simp [m1, m2, ml]; omega) | (simp [m1, m2, ml]; intros; omega))
              have HB := Lib.hid (H1.out HF.out)
              obtain ⟨s, hs2⟩ : ∃ s, s = statTo L (j + 1) := ⟨_, rfl⟩
              obtain ⟨s2, hs3⟩ : ∃ s2, s2 = (statusAfter s f0).1 := ⟨_, rfl⟩
              have HN := Lib.hid (show statTo L (j + 1 + 1) = s2 by rw [hs3, hs2]; exact HSU.out)
              rw [← hs2] at m1
              rw [← hs2]
              have ST := Lib.hid (fun w : World => show Calls Tryz.prog 105 #[.int .i64 s, .int .i64 f0] w (fun e w' => e = .returned (.tuple #[.int .i64 s2, .bool true]) ∧ w = w') by have := iStatusAfter_any s f0 w; rw [m1, ← hs3] at this; exact this)
              have qm2 := valM _ m2
              clear hs2 hs3 m1 m2
              go_wp2_with fail
              refine (ST.out _).mono ?_
              rintro e w' ⟨rfl, rfl⟩
              go_wp2
              go_quiet ((go_at_call 58; with_reducible exact quiet_left (qm2.out _)))
              go_wp2
              go_ret
              exact ⟨ret_bool HB.out, by first | exact (hs.alloc _).drewN _ | exact hs.drewN _⟩
    · obtain rfl : k = L.length := by omega
      go_wp2
      go_ret
      exact ⟨ret_bool (by rw [eventsOk, Hall.out]; simp; omega), hs⟩

set_option maxRecDepth 10000 in
set_option maxHeartbeats 4000000 in
theorem sEventsOk_any (A : Option Addr) (c : Nat) (L : List TEvent) (w : World) (hz : L.length ≤ 1048576) (hA : AtEvent w A L) :
    Calls Tryz.prog 56 #[.slice A L.length c] w fun e w' => e = .returned (.bool (eventsOk L)) ∧ Same w w' := by
  go_enter Tryz.func56, Tryz.ntmps56
  go_wp2
  go_loopw [3, 4] (fun t3 i wr => ∃ k : Nat, k ≤ L.length ∧ i = .int .i64 k ∧ t3 = .int .i64 (statTo L k) ∧ Hid (allTo (eventAt L) k = true) ∧ Same w wr) (fun _ i _ => L.length - (intOf i).toNat)
  case atStart => exact ⟨0, Nat.zero_le _, rfl, rfl, rfl, Same.refl _⟩
  case round =>
    obtain ⟨k, hk, rfl, rfl, Hall, hs⟩ := hrel
    by_cases hlt : k < L.length
    · rcases Nat.eq_zero_or_pos k with h0 | h0
      · obtain ⟨b, off, x, rfl, hc, HX, hbl⟩ := (hA.same hs).at_ hlt
        subst h0
        rw [show ((0 : Nat) : Int) = 0 from rfl]
        obtain ⟨f0, f1⟩ := x
        have HE := Lib.hid (eventAt_zero HX.out)
        have HSU := Lib.hid (statTo_succ HX.out)
        have H1 := Lib.hid (fun hp => eventsOk_false (E := L) hlt hp)
        have d0 := hc 0 _ rfl
        have d1 := hc 1 _ rfl
        simp only [Nat.add_zero, Nat.zero_mul] at d0 d1
        clear hc HX hA
        cases m1 : (statusAfter (statTo L 0) f0).2
        · have HF := Lib.hid (show eventAt L (0) = false by rw [HE.out]; first | (simp [m1]; done) | (simp [m1]; omega) | (simp [m1]; intros; omega))
          have HB := Lib.hid (H1.out HF.out)
          obtain ⟨s, hs2⟩ : ∃ s, s = statTo L (0) := ⟨_, rfl⟩
          obtain ⟨s2, hs3⟩ : ∃ s2, s2 = (statusAfter s f0).1 := ⟨_, rfl⟩
          have HN := Lib.hid (show statTo L (0 + 1) = s2 by rw [hs3, hs2]; exact HSU.out)
          rw [← hs2] at m1
          rw [← hs2]
          have ST := Lib.hid (fun w : World => show Calls Tryz.prog 57 #[.int .i64 s, .int .i64 f0] w (fun e w' => e = .returned (.tuple #[.int .i64 s2, .bool false]) ∧ w = w') by have := sStatusAfter_any s f0 w; rw [m1, ← hs3] at this; exact this)
          clear hs2 hs3 m1
          go_wp2_with fail
          refine (ST.out _).mono ?_
          rintro e w' ⟨rfl, rfl⟩
          go_wp2
          go_quiet (fail)
          go_wp2
          go_ret
          exact ⟨ret_bool HB.out, by first | exact (hs.alloc _).drewN _ | exact hs.drewN _⟩
        · cases m2 : inB f1 0 3599
          · have HF := Lib.hid (show eventAt L (0) = false by rw [HE.out]; first | (simp [m1, m2]; done) | (simp [m1, m2]; omega) | (simp [m1, m2]; intros; omega))
            have HB := Lib.hid (H1.out HF.out)
            obtain ⟨s, hs2⟩ : ∃ s, s = statTo L (0) := ⟨_, rfl⟩
            obtain ⟨s2, hs3⟩ : ∃ s2, s2 = (statusAfter s f0).1 := ⟨_, rfl⟩
            have HN := Lib.hid (show statTo L (0 + 1) = s2 by rw [hs3, hs2]; exact HSU.out)
            rw [← hs2] at m1
            rw [← hs2]
            have ST := Lib.hid (fun w : World => show Calls Tryz.prog 57 #[.int .i64 s, .int .i64 f0] w (fun e w' => e = .returned (.tuple #[.int .i64 s2, .bool true]) ∧ w = w') by have := sStatusAfter_any s f0 w; rw [m1, ← hs3] at this; exact this)
            have qm2 := valMs _ m2
            clear hs2 hs3 m1 m2
            go_wp2_with fail
            refine (ST.out _).mono ?_
            rintro e w' ⟨rfl, rfl⟩
            go_wp2
            go_quiet ((go_at_call 114; with_reducible exact quiet_left (qm2.out _)))
            go_wp2
            go_ret
            exact ⟨ret_bool HB.out, by first | exact (hs.alloc _).drewN _ | exact hs.drewN _⟩
          · have HF := Lib.hid (show eventAt L (0) = true by rw [HE.out]; first | (simp [m1, m2]; done) | (simp [m1, m2]; omega))
            have HT := Lib.hid (show allTo (eventAt L) (0 + 1) = true by rw [allTo, Hall.out, HF.out]; rfl)
            obtain ⟨s, hs2⟩ : ∃ s, s = statTo L (0) := ⟨_, rfl⟩
            obtain ⟨s2, hs3⟩ : ∃ s2, s2 = (statusAfter s f0).1 := ⟨_, rfl⟩
            have HN := Lib.hid (show statTo L (0 + 1) = s2 by rw [hs3, hs2]; exact HSU.out)
            rw [← hs2] at m1
            rw [← hs2]
            have ST := Lib.hid (fun w : World => show Calls Tryz.prog 57 #[.int .i64 s, .int .i64 f0] w (fun e w' => e = .returned (.tuple #[.int .i64 s2, .bool true]) ∧ w = w') by have := sStatusAfter_any s f0 w; rw [m1, ← hs3] at this; exact this)
            have qm2 := valMs _ m2
            clear hs2 hs3 m1 m2
            go_wp2_with fail
            refine (ST.out _).mono ?_
            rintro e w' ⟨rfl, rfl⟩
            go_wp2
            go_quiet ((go_at_call 114; with_reducible exact quiet_left (qm2.out _)))
            go_wp2
            go_roundw
            case rel => exact ⟨0 + 1, by omega, by first | rfl | go_num, by rw [HN.out], HT.out, by first | exact (hs.alloc _).drewN _ | exact hs.drewN _⟩
            case measure => simp [intOf]; omega
      · obtain ⟨j, rfl⟩ : ∃ j, k = j + 1 := ⟨k - 1, by omega⟩
        obtain ⟨b, off, y, x, rfl, hc0, hc, HY, HX, hbl⟩ := (hA.same hs).at2 hlt
        rw [show ((j + 1 : Nat) : Int) = (j : Int) + 1 by omega]
        obtain ⟨p0, p1⟩ := y
        obtain ⟨f0, f1⟩ := x
        have HE := Lib.hid (eventAt_succ HY.out HX.out)
        have HSU := Lib.hid (statTo_succ HX.out)
        have H1 := Lib.hid (fun hp => eventsOk_false (E := L) hlt hp)
        have e1 := hc0 1 _ rfl
        have d0 := hc 0 _ rfl
        have d1 := hc 1 _ rfl
        simp only [Nat.add_zero] at d0
        clear hc hc0 HX HY hA
        have q0 : (0 : Int) < (j : Int) + 1 := by omega
        have q6 : (0 : Int) ≤ (j : Int) + 1 := by omega
        have q1 : (0 : Int) ≤ (j : Int) := by omega
        have q2 : (j : Int) < (L.length : Int) := by omega
        have q3 : (j : Int) + 1 < (L.length : Int) := by omega
        have q4 : IntKind.i64.wrap (j : Int) = (j : Int) := IntWalk.i64_in _ (by omega)
        have q5 : (j : Int) + 1 - 1 = (j : Int) := by omega
        cases m1 : (statusAfter (statTo L (j + 1)) f0).2
        · have HF := Lib.hid (show eventAt L (j + 1) = false by rw [HE.out]; first | (simp [m1]; done) | (simp [m1]; omega) | (simp [m1]; intros; omega))
          have HB := Lib.hid (H1.out HF.out)
          obtain ⟨s, hs2⟩ : ∃ s, s = statTo L (j + 1) := ⟨_, rfl⟩
          obtain ⟨s2, hs3⟩ : ∃ s2, s2 = (statusAfter s f0).1 := ⟨_, rfl⟩
          have HN := Lib.hid (show statTo L (j + 1 + 1) = s2 by rw [hs3, hs2]; exact HSU.out)
          rw [← hs2] at m1
          rw [← hs2]
          have ST := Lib.hid (fun w : World => show Calls Tryz.prog 57 #[.int .i64 s, .int .i64 f0] w (fun e w' => e = .returned (.tuple #[.int .i64 s2, .bool false]) ∧ w = w') by have := sStatusAfter_any s f0 w; rw [m1, ← hs3] at this; exact this)
          clear hs2 hs3 m1
          go_wp2_with fail
          refine (ST.out _).mono ?_
          rintro e w' ⟨rfl, rfl⟩
          go_wp2
          go_quiet (fail)
          go_wp2
          go_ret
          exact ⟨ret_bool HB.out, by first | exact (hs.alloc _).drewN _ | exact hs.drewN _⟩
        · cases m2 : inB f1 0 3599
          · have HF := Lib.hid (show eventAt L (j + 1) = false by rw [HE.out]; first | (simp [m1, m2]; done) | (simp [m1, m2]; omega) | (simp [m1, m2]; intros; omega))
            have HB := Lib.hid (H1.out HF.out)
            obtain ⟨s, hs2⟩ : ∃ s, s = statTo L (j + 1) := ⟨_, rfl⟩
            obtain ⟨s2, hs3⟩ : ∃ s2, s2 = (statusAfter s f0).1 := ⟨_, rfl⟩
            have HN := Lib.hid (show statTo L (j + 1 + 1) = s2 by rw [hs3, hs2]; exact HSU.out)
            rw [← hs2] at m1
            rw [← hs2]
            have ST := Lib.hid (fun w : World => show Calls Tryz.prog 57 #[.int .i64 s, .int .i64 f0] w (fun e w' => e = .returned (.tuple #[.int .i64 s2, .bool true]) ∧ w = w') by have := sStatusAfter_any s f0 w; rw [m1, ← hs3] at this; exact this)
            have qm2 := valMs _ m2
            clear hs2 hs3 m1 m2
            go_wp2_with fail
            refine (ST.out _).mono ?_
            rintro e w' ⟨rfl, rfl⟩
            go_wp2
            go_quiet ((go_at_call 114; with_reducible exact quiet_left (qm2.out _)))
            go_wp2
            go_ret
            exact ⟨ret_bool HB.out, by first | exact (hs.alloc _).drewN _ | exact hs.drewN _⟩
          · rcases Decidable.em (p1 < f1) with ml | ml
            · have HF := Lib.hid (show eventAt L (j + 1) = true by rw [HE.out]; first | (simp [m1, m2, ml]; done) | (simp [m1, m2, ml]; omega))
              have HT := Lib.hid (show allTo (eventAt L) (j + 1 + 1) = true by rw [allTo, Hall.out, HF.out]; rfl)
              obtain ⟨s, hs2⟩ : ∃ s, s = statTo L (j + 1) := ⟨_, rfl⟩
              obtain ⟨s2, hs3⟩ : ∃ s2, s2 = (statusAfter s f0).1 := ⟨_, rfl⟩
              have HN := Lib.hid (show statTo L (j + 1 + 1) = s2 by rw [hs3, hs2]; exact HSU.out)
              rw [← hs2] at m1
              rw [← hs2]
              have ST := Lib.hid (fun w : World => show Calls Tryz.prog 57 #[.int .i64 s, .int .i64 f0] w (fun e w' => e = .returned (.tuple #[.int .i64 s2, .bool true]) ∧ w = w') by have := sStatusAfter_any s f0 w; rw [m1, ← hs3] at this; exact this)
              have qm2 := valMs _ m2
              clear hs2 hs3 m1 m2
              go_wp2_with fail
              refine (ST.out _).mono ?_
              rintro e w' ⟨rfl, rfl⟩
              go_wp2
              go_quiet ((go_at_call 114; with_reducible exact quiet_left (qm2.out _)))
              go_wp2
              go_roundw
              case rel => exact ⟨j + 1 + 1, by omega, by first | rfl | go_num, by rw [HN.out], HT.out, by first | exact (hs.alloc _).drewN _ | exact hs.drewN _⟩
              case measure => simp [intOf]; omega
            · have HF := Lib.hid (show eventAt L (j + 1) = false by rw [HE.out]; first | (simp [m1, m2, ml]; done) | (simp [m1, m2, ml]; omega) | (simp [m1, m2, ml]; intros; omega))
              have HB := Lib.hid (H1.out HF.out)
              obtain ⟨s, hs2⟩ : ∃ s, s = statTo L (j + 1) := ⟨_, rfl⟩
              obtain ⟨s2, hs3⟩ : ∃ s2, s2 = (statusAfter s f0).1 := ⟨_, rfl⟩
              have HN := Lib.hid (show statTo L (j + 1 + 1) = s2 by rw [hs3, hs2]; exact HSU.out)
              rw [← hs2] at m1
              rw [← hs2]
              have ST := Lib.hid (fun w : World => show Calls Tryz.prog 57 #[.int .i64 s, .int .i64 f0] w (fun e w' => e = .returned (.tuple #[.int .i64 s2, .bool true]) ∧ w = w') by have := sStatusAfter_any s f0 w; rw [m1, ← hs3] at this; exact this)
              have qm2 := valMs _ m2
              clear hs2 hs3 m1 m2
              go_wp2_with fail
              refine (ST.out _).mono ?_
              rintro e w' ⟨rfl, rfl⟩
              go_wp2
              go_quiet ((go_at_call 114; with_reducible exact quiet_left (qm2.out _)))
              go_wp2
              go_ret
              exact ⟨ret_bool HB.out, by first | exact (hs.alloc _).drewN _ | exact hs.drewN _⟩
    · obtain rfl : k = L.length := by omega
      go_wp2
      go_ret
      exact ⟨ret_bool (by rw [eventsOk, Hall.out]; simp; omega), hs⟩

set_option maxHeartbeats 2000000 in
theorem iMemberOk_any (birth joined : Int) (A : Option Addr) (c : Nat) (S : List TSpell) (B : Option Addr) (d : Nat) (E : List TEvent) (w : World) (hS : S.length ≤ 1048576) (hE : E.length ≤ 1048576) (hA : AtSpell w A S) (hB : AtEvent w B E) :
    Calls Tryz.prog 20 #[.agg #[.int .i64 birth, .int .i64 joined, .slice A S.length c, .slice B E.length d]] w fun e w' => e = .returned (.bool (memberOk birth joined S E)) ∧ Same w w' := by
  have HR := Lib.hid (show memberOk birth joined S E = (inB birth 0 3599 && inB joined 0 3599 && decide (birth ≤ joined) && spellsOk S && eventsOk E) from rfl)
  go_enter Tryz.func20, Tryz.ntmps20
  go_wp2_with (go_at_call 58; refine (iMonthOk_any _ _).mono ?_; rintro e w' ⟨rfl, rfl⟩)
  · have h1 := BoxAt.new w 36 [.int .i64 birth, .int .i64 joined, .slice A S.length c, .slice B E.length d]
    have hs0 := (Same.refl w).alloc (.cells #[.int .i64 birth, .int .i64 joined, .slice A S.length c, .slice B E.length d] 36)
    refine (iSpellsOk_any A c S _ hS (hA.same hs0)).mono ?_
    rintro e w1 ⟨rfl, hs1⟩
    have b3 := (h1.same hs1).cell 3 rfl
    go_wp2_with fail
    · refine (iEventsOk_any B d E _ hE ((hB.same hs0).same hs1)).mono ?_
      rintro e w2 ⟨rfl, hs2⟩
      clear b3
      go_wp2
      all_goals go_ret
      all_goals exact ⟨ret_bool (by rw [HR.out]; simp [*]), (hs0.trans hs1).trans hs2⟩
    all_goals go_ret
    all_goals exact ⟨ret_bool (by rw [HR.out]; simp [*]), hs0.trans hs1⟩
  all_goals go_ret
  all_goals exact ⟨ret_bool (by rw [HR.out]; first | (simp [*]; done) | (simp [*]; intros; exfalso; omega)), (Same.refl w).alloc _⟩

set_option maxHeartbeats 2000000 in
theorem sMemberOk_any (birth joined : Int) (A : Option Addr) (c : Nat) (S : List TSpell) (B : Option Addr) (d : Nat) (E : List TEvent) (w : World) (hS : S.length ≤ 1048576) (hE : E.length ≤ 1048576) (hA : AtSpell w A S) (hB : AtEvent w B E) :
    Calls Tryz.prog 55 #[.agg #[.int .i64 birth, .int .i64 joined, .slice A S.length c, .slice B E.length d]] w fun e w' => e = .returned (.bool (memberOk birth joined S E)) ∧ Same w w' := by
  have HR := Lib.hid (show memberOk birth joined S E = (inB birth 0 3599 && inB joined 0 3599 && decide (birth ≤ joined) && spellsOk S && eventsOk E) from rfl)
  go_enter Tryz.func55, Tryz.ntmps55
  go_wp2_with (go_at_call 114; refine (sMonthOk_any _ _).mono ?_; rintro e w' ⟨rfl, rfl⟩)
  · have h1 := BoxAt.new w 36 [.int .i64 birth, .int .i64 joined, .slice A S.length c, .slice B E.length d]
    have hs0 := (Same.refl w).alloc (.cells #[.int .i64 birth, .int .i64 joined, .slice A S.length c, .slice B E.length d] 36)
    refine (sSpellsOk_any A c S _ hS (hA.same hs0)).mono ?_
    rintro e w1 ⟨rfl, hs1⟩
    have b3 := (h1.same hs1).cell 3 rfl
    go_wp2_with fail
    · refine (sEventsOk_any B d E _ hE ((hB.same hs0).same hs1)).mono ?_
      rintro e w2 ⟨rfl, hs2⟩
      clear b3
      go_wp2
      all_goals go_ret
      all_goals exact ⟨ret_bool (by rw [HR.out]; simp [*]), (hs0.trans hs1).trans hs2⟩
    all_goals go_ret
    all_goals exact ⟨ret_bool (by rw [HR.out]; simp [*]), hs0.trans hs1⟩
  all_goals go_ret
  all_goals exact ⟨ret_bool (by rw [HR.out]; first | (simp [*]; done) | (simp [*]; intros; exfalso; omega)), (Same.refl w).alloc _⟩
end Go.Proofs.YtjfmknhnplefnaaGreat
