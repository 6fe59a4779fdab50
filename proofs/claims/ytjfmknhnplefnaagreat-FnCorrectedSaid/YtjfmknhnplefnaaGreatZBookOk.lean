/-
  Valid books.
-/
import Derived.Test.YtjfmknhnplefnaaGreatZRuleOk
namespace Go.Proofs.YtjfmknhnplefnaaGreat
open Go.RowKit
set_option linter.unusedVariables false

theorem l04End_any (m : Int) (w : World) : Calls Tryz.prog 76 #[.int .i64 m] w fun e w' => e = .returned (.bool (inB m 0 3600)) ∧ w = w' := by
  go_enter Tryz.func76, Tryz.ntmps76
  go_wp2_with (go_at_call 115; refine (l01In_any _ _ _ _).mono ?_; rintro e w' ⟨rfl, rfl⟩)
  go_ret
  exact ⟨rfl, rfl⟩
theorem sMonthsIn_ok (a b c d : Int) (w : World) (ha : inB a 0 3600 = true) (hb : inB b 0 3600 = true) (hc : inB c 0 3600 = true) (hd : inB d 0 3600 = true) :
    Calls Tryz.prog 112 #[.int .i64 a, .int .i64 b, .int .i64 c, .int .i64 d] w fun e w' => e = .returned (.int .i64 (max 0 (min b d - max a c))) ∧ w = w' := by
  have h1 := inB_iff.1 ha
  have h2 := inB_iff.1 hb
  have h3 := inB_iff.1 hc
  have h4 := inB_iff.1 hd
  go_enter Tryz.func112, Tryz.ntmps112
  go_wp2_with fail
  refine (l04End_any a _).mono ?_
  rintro e w1 ⟨rfl, rfl⟩
  rw [ha]
  go_wp2_with fail
  refine (l04End_any b _).mono ?_
  rintro e w1 ⟨rfl, rfl⟩
  rw [hb]
  go_wp2_with fail
  refine (l04End_any c _).mono ?_
  rintro e w1 ⟨rfl, rfl⟩
  rw [hc]
  go_wp2_with fail
  refine (l04End_any d _).mono ?_
  rintro e w1 ⟨rfl, rfl⟩
  rw [hd]
  go_wp2
  all_goals go_ret
  all_goals exact ⟨ret_int (by omega), rfl⟩
theorem span_in {f t : Int} (h : (decide (0 ≤ f) && decide (f < t) && decide (t ≤ 3600)) = true) : 0 ≤ f ∧ f < t ∧ t ≤ 3600 := by
  simpa [and_assoc] using h
theorem ruleOk_span {r : TRule} (h : ruleOk r = true) : 0 ≤ r.from_ ∧ r.from_ < r.to_ ∧ r.to_ ≤ 3600 := by
  simp only [ruleOk, Bool.and_eq_true, decide_eq_true_eq] at h
  omega
theorem ruleAt_eq {R : List TRule} {i : Nat} {r : TRule} (h : R[i]? = some r) : ruleAt R i = (ruleOk r && allTo (clear_ R i) i) := by simp [ruleAt, List.getD, h]
theorem clear_eq {R : List TRule} {i k : Nat} {r o : TRule} (h : R[i]? = some r) (ho : R[k]? = some o) : clear_ R i k = !clash o r := by simp [clear_, List.getD, h, ho]

set_option maxRecDepth 10000 in
set_option maxHeartbeats 8000000 in
theorem sBookOk_any (A : Option Addr) (c : Nat) (R : List TRule) (w : World) (hz : R.length ≤ 1048576) (hcap : R.length ≤ c) (hN : SmallR R 1048576) (hA : RulesAt w A R) :
    Calls Tryz.prog 52 #[.agg #[.slice A R.length c]] w fun e w' => e = .returned (.bool (bookOk R)) ∧ Same w w' := by
  go_enter Tryz.func52, Tryz.ntmps52
  go_wp2
  have h1 : BoxAt (w.alloc (.cells #[.slice A R.length c] 26)) (w.heap.size) 26 [.slice A R.length c] := by simpa using (BoxAt.new w 26 [.slice A R.length c])
  have hs0 := (Same.alloc (Same.refl w) (.cells #[.slice A R.length c] 26))
  generalize (w.alloc (.cells #[.slice A R.length c] 26)) = w0 at *
  have hA0 := hA.same hs0
  have hl0 := h1.lt
  go_loopw [3] (fun i wr => ∃ k : Nat, k ≤ R.length ∧ i = .int .i64 k ∧ Hid (allTo (ruleAt R) k = true) ∧ Same w0 wr) (fun i _ => R.length - (intOf i).toNat)
  case atStart => exact ⟨0, Nat.zero_le _, rfl, rfl, Same.refl _⟩
  case round =>
    obtain ⟨k, hk, rfl, Hall, hs⟩ := hrel
    have hb := h1.same hs
    have b0 := hb.cell 0 rfl
    have hbl0 := hb.lt
    by_cases hlt : k < R.length
    · obtain ⟨b, off, r, B, d, rfl, hc, HX, hn, hbl⟩ := (hA0.same hs).at_ hlt
      have hrn := hN r (List.mem_of_getElem? HX.out)
      have H1 := Lib.hid (fun hp => bookOk_false (R := R) hlt hp)
      have HE := Lib.hid (ruleAt_eq HX.out)
      obtain ⟨nm, fr, to, jo, ra, mo, N⟩ := r
      obtain ⟨c0, c1, c2, c3, c4, c5, c6⟩ := rule_cells hc
      clear hc
      have h2 := BoxAt.new wr 114 [.int .i64 nm, .int .i64 fr, .int .i64 to, .int .i64 jo, .int .i64 ra, .int .i64 mo, .slice B N.length d]
      have al := (Same.refl wr).alloc (.cells #[.int .i64 nm, .int .i64 fr, .int .i64 to, .int .i64 jo, .int .i64 ra, .int .i64 mo, .slice B N.length d] 114)
      go_wp2_with fail
      generalize wr.alloc (.cells #[.int .i64 nm, .int .i64 fr, .int .i64 to, .int .i64 jo, .int .i64 ra, .int .i64 mo, .slice B N.length d] 114) = w2 at *
      have gl := h2.lt
      refine (sRuleOk_any nm fr to jo ra mo B d N _ hrn (hn.same al)).mono ?_
      rintro e w3 ⟨rfl, hs3⟩
      have S3 := (hs.trans al).trans hs3
      replace h2 := h2.same hs3
      clear c0 c1 c2 c3 c4 c5 c6 b0 hb hn hs al
      cases hok : ruleOk (⟨nm, fr, to, jo, ra, mo, N⟩ : TRule)
      · have HB := Lib.hid (H1.out (by rw [HE.out, hok]; rfl))
        clear hok
        go_wp2
        go_ret
        exact ⟨ret_bool HB.out, hs0.trans S3⟩
      · have HOK := Lib.hid hok
        have hb3 := h1.same S3
        have b0 := hb3.cell 0 rfl
        have hkc : (k : Int) ≤ (c : Int) := by omega
        have hk0 : (0 : Int) ≤ (k : Int) := by omega
        clear hok
        go_wp2
        clear b0
        go_loopw [5] (fun i wi => ∃ j : Nat, j ≤ k ∧ i = .int .i64 j ∧ Hid (allTo (clear_ R k) j = true) ∧ Same w3 wi) (fun i _ => k - (intOf i).toNat)
        case atStart => exact ⟨0, Nat.zero_le _, rfl, rfl, Same.refl _⟩
        case round =>
          obtain ⟨j, hj, rfl, Hin, hi⟩ := hrel
          have h2i := h2.same hi
          have b0 := (hb3.same hi).cell 0 rfl
          have hbi := (hb3.same hi).lt
          have gi := h2i.lt
          by_cases hjk : j < k
          · obtain ⟨b', off', r2, B2, d2, hbe, hc, HY, hn2, hbl2⟩ := (hA0.same (S3.trans hi)).at_ (show j < R.length by omega)
            injection hbe with hbe
            injection hbe with hb1 hb2
            subst hb1 hb2
            have HC := Lib.hid (clear_eq HX.out HY.out)
            have hra : ruleOk r2 = true := by
              have := allTo_iff.1 Hall.out j hjk
              rw [ruleAt_eq HY.out, Bool.and_eq_true] at this
              exact this.1
            have sp1 := ruleOk_span HOK.out
            have sp2 := ruleOk_span hra
            obtain ⟨nm2, fr2, to2, jo2, ra2, mo2, N2⟩ := r2
            dsimp only at sp1 sp2
            have hi1 := Lib.hid (show inB fr2 0 3600 = true from inB_iff.2 (by omega))
            have hi2 := Lib.hid (show inB to2 0 3600 = true from inB_iff.2 (by omega))
            have hi3 := Lib.hid (show inB fr 0 3600 = true from inB_iff.2 (by omega))
            have hi4 := Lib.hid (show inB to 0 3600 = true from inB_iff.2 (by omega))
            obtain ⟨c0, c1, c2, c3, c4, c5, c6⟩ := rule_cells hc
            have r0 := h2i.cell 0 rfl
            have r1 := h2i.cell 1 rfl
            have r2 := h2i.cell 2 rfl
            have r4 := h2i.cell 4 rfl
            have HCL := Lib.hid (show clear_ R k j = !(nm2 == nm && ra2 == ra && decide (fr2 < to) && decide (fr < to2)) from HC.out)
            have H2 := Lib.hid (fun (hp : clear_ R k j = false) => H1.out (show ruleAt R k = false by rw [HE.out, HOK.out, allTo_false hp hjk]; rfl))
            have q1 : (j : Int) < (k : Int) := by omega
            have q2 : (j : Int) < (R.length : Int) := by omega
            have q3 : (0 : Int) ≤ (j : Int) := by omega
            clear hc hn2 HC hra HX
            by_cases e1 : nm2 = nm
            · by_cases e2 : ra2 = ra
              · by_cases e3 : fr2 < to
                · by_cases e4 : fr < to2
                  · have HB := Lib.hid (H2.out (by rw [HCL.out]; simp [e1, e2, e3, e4]))
                    have f1 : (nm2 == nm) = true := by simp [e1]
                    have f2 : (ra2 == ra) = true := by simp [e2]
                    have f3 : 0 < max 0 (min to2 to - max fr2 fr) := by omega
                    clear e1 e2
                    go_wp2_with (go_at_call 112; refine (sMonthsIn_ok _ _ _ _ _ hi1.out hi2.out hi3.out hi4.out).mono ?_; rintro e w9 ⟨rfl, rfl⟩)
                    go_ret
                    exact ⟨ret_bool HB.out, hs0.trans (S3.trans (hi.trans ((Same.refl _).alloc _)))⟩
                  · have HT := Lib.hid (show allTo (clear_ R k) (j + 1) = true by rw [allTo, Hin.out, HCL.out]; simp [e1, e2, e3, e4])
                    have f1 : (nm2 == nm) = true := by simp [e1]
                    have f2 : (ra2 == ra) = true := by simp [e2]
                    have f3 : ¬ 0 < max 0 (min to2 to - max fr2 fr) := by omega
                    clear e1 e2
                    go_wp2_with (go_at_call 112; refine (sMonthsIn_ok _ _ _ _ _ hi1.out hi2.out hi3.out hi4.out).mono ?_; rintro e w9 ⟨rfl, rfl⟩)
                    go_roundw
                    case rel => exact ⟨j + 1, by omega, by go_num, HT.out, hi.trans ((Same.refl _).alloc _)⟩
                    case measure => simp [intOf]; omega
                · have HT := Lib.hid (show allTo (clear_ R k) (j + 1) = true by rw [allTo, Hin.out, HCL.out]; simp [e1, e2, e3])
                  have f1 : (nm2 == nm) = true := by simp [e1]
                  have f2 : (ra2 == ra) = true := by simp [e2]
                  have f3 : ¬ 0 < max 0 (min to2 to - max fr2 fr) := by omega
                  clear e1 e2
                  go_wp2_with (go_at_call 112; refine (sMonthsIn_ok _ _ _ _ _ hi1.out hi2.out hi3.out hi4.out).mono ?_; rintro e w9 ⟨rfl, rfl⟩)
                  go_roundw
                  case rel => exact ⟨j + 1, by omega, by go_num, HT.out, hi.trans ((Same.refl _).alloc _)⟩
                  case measure => simp [intOf]; omega
              · have HT := Lib.hid (show allTo (clear_ R k) (j + 1) = true by rw [allTo, Hin.out, HCL.out]; simp [e2])
                have f1 : (nm2 == nm) = true := by simp [e1]
                have f2 : (ra2 == ra) = false := by simp [e2]
                clear e1 e2
                go_wp2
                go_roundw
                case rel => exact ⟨j + 1, by omega, by go_num, HT.out, hi.trans ((Same.refl _).alloc _)⟩
                case measure => simp [intOf]; omega
            · have HT := Lib.hid (show allTo (clear_ R k) (j + 1) = true by rw [allTo, Hin.out, HCL.out]; simp [e1])
              have f1 : (nm2 == nm) = false := by simp [e1]
              clear e1
              go_wp2
              go_roundw
              case rel => exact ⟨j + 1, by omega, by go_num, HT.out, hi.trans ((Same.refl _).alloc _)⟩
              case measure => simp [intOf]; omega
          · obtain rfl : j = k := by omega
            have HT := Lib.hid (show allTo (ruleAt R) (j + 1) = true by rw [allTo, Hall.out, HE.out, HOK.out, Hin.out]; rfl)
            go_wp2
            go_roundw
            case rel => exact ⟨j + 1, hlt, by go_num, HT.out, S3.trans hi⟩
            case measure => simp [intOf]; omega
    · obtain rfl : k = R.length := by omega
      go_wp2
      go_ret
      exact ⟨ret_bool (by rw [bookOk, Hall.out]; simp; omega), hs0.trans hs⟩

set_option maxRecDepth 10000 in
set_option maxHeartbeats 8000000 in
theorem iBookOk_any (A : Option Addr) (c : Nat) (R : List TRule) (w : World) (hz : R.length ≤ 1048576) (hcap : R.length ≤ c) (hN : SmallR R 1048576) (hA : RulesAt w A R) :
    Calls Tryz.prog 49 #[.agg #[.slice A R.length c]] w fun e w' => e = .returned (.bool (bookOk R)) ∧ Same w w' := by
  go_enter Tryz.func49, Tryz.ntmps49
  go_wp2
  have h1 : BoxAt (w.alloc (.cells #[.slice A R.length c] 26)) (w.heap.size) 26 [.slice A R.length c] := by simpa using (BoxAt.new w 26 [.slice A R.length c])
  have hs0 := (Same.alloc (Same.refl w) (.cells #[.slice A R.length c] 26))
  generalize (w.alloc (.cells #[.slice A R.length c] 26)) = w0 at *
  have hA0 := hA.same hs0
  have hl0 := h1.lt
  go_loopw [10] (fun i wr => ∃ k : Nat, k ≤ R.length ∧ i = .int .i64 k ∧ Hid (allTo (ruleAt R) k = true) ∧ Same w0 wr) (fun i _ => R.length - (intOf i).toNat)
  case atStart => exact ⟨0, Nat.zero_le _, rfl, rfl, Same.refl _⟩
  case round =>
    obtain ⟨k, hk, rfl, Hall, hs⟩ := hrel
    have hb := h1.same hs
    have b0 := hb.cell 0 rfl
    have hbl0 := hb.lt
    by_cases hlt : k < R.length
    · obtain ⟨b, off, r, B, d, rfl, hc, HX, hn, hbl⟩ := (hA0.same hs).at_ hlt
      have hrn := hN r (List.mem_of_getElem? HX.out)
      have H1 := Lib.hid (fun hp => bookOk_false (R := R) hlt hp)
      have HE := Lib.hid (ruleAt_eq HX.out)
      obtain ⟨nm, fr, to, jo, ra, mo, N⟩ := r
      obtain ⟨c0, c1, c2, c3, c4, c5, c6⟩ := rule_cells hc
      clear hc
      have h2 := BoxAt.new wr 114 [.int .i64 nm, .int .i64 fr, .int .i64 to, .int .i64 jo, .int .i64 ra, .int .i64 mo, .slice B N.length d]
      have al := (Same.refl wr).alloc (.cells #[.int .i64 nm, .int .i64 fr, .int .i64 to, .int .i64 jo, .int .i64 ra, .int .i64 mo, .slice B N.length d] 114)
      go_wp2_with fail
      generalize wr.alloc (.cells #[.int .i64 nm, .int .i64 fr, .int .i64 to, .int .i64 jo, .int .i64 ra, .int .i64 mo, .slice B N.length d] 114) = w2 at *
      have gl := h2.lt
      refine (iRuleOk_any nm fr to jo ra mo B d N _ hrn (hn.same al)).mono ?_
      rintro e w3 ⟨rfl, hs3⟩
      have S3 := (hs.trans al).trans hs3
      replace h2 := h2.same hs3
      clear c0 c1 c2 c3 c4 c5 c6 b0 hb hn hs al
      cases hok : ruleOk (⟨nm, fr, to, jo, ra, mo, N⟩ : TRule)
      · have HB := Lib.hid (H1.out (by rw [HE.out, hok]; rfl))
        clear hok
        go_wp2
        go_ret
        exact ⟨ret_bool HB.out, hs0.trans S3⟩
      · have HOK := Lib.hid hok
        have hb3 := h1.same S3
        have b0 := hb3.cell 0 rfl
        have hkc : (k : Int) ≤ (c : Int) := by omega
        have hk0 : (0 : Int) ≤ (k : Int) := by omega
        clear hok
        go_wp2
        clear b0
        go_loopw [23] (fun i wi => ∃ j : Nat, j ≤ k ∧ i = .int .i64 j ∧ Hid (allTo (clear_ R k) j = true) ∧ Same w3 wi) (fun i _ => k - (intOf i).toNat)
        case atStart => exact ⟨0, Nat.zero_le _, rfl, rfl, Same.refl _⟩
        case round =>
          obtain ⟨j, hj, rfl, Hin, hi⟩ := hrel
          have h2i := h2.same hi
          have b0 := (hb3.same hi).cell 0 rfl
          have hbi := (hb3.same hi).lt
          have gi := h2i.lt
          by_cases hjk : j < k
          · obtain ⟨b', off', r2, B2, d2, hbe, hc, HY, hn2, hbl2⟩ := (hA0.same (S3.trans hi)).at_ (show j < R.length by omega)
            injection hbe with hbe
            injection hbe with hb1 hb2
            subst hb1 hb2
            have HC := Lib.hid (clear_eq HX.out HY.out)
            have hra : ruleOk r2 = true := by
              have := allTo_iff.1 Hall.out j hjk
              rw [ruleAt_eq HY.out, Bool.and_eq_true] at this
              exact this.1
            have sp1 := ruleOk_span HOK.out
            have sp2 := ruleOk_span hra
            obtain ⟨nm2, fr2, to2, jo2, ra2, mo2, N2⟩ := r2
            dsimp only at sp1 sp2
            have hi1 := Lib.hid (show inB fr2 0 3600 = true from inB_iff.2 (by omega))
            have hi2 := Lib.hid (show inB to2 0 3600 = true from inB_iff.2 (by omega))
            have hi3 := Lib.hid (show inB fr 0 3600 = true from inB_iff.2 (by omega))
            have hi4 := Lib.hid (show inB to 0 3600 = true from inB_iff.2 (by omega))
            obtain ⟨c0, c1, c2, c3, c4, c5, c6⟩ := rule_cells hc
            have r0 := h2i.cell 0 rfl
            have r1 := h2i.cell 1 rfl
            have r2 := h2i.cell 2 rfl
            have r4 := h2i.cell 4 rfl
            have HCL := Lib.hid (show clear_ R k j = !(nm2 == nm && ra2 == ra && decide (fr2 < to) && decide (fr < to2)) from HC.out)
            have H2 := Lib.hid (fun (hp : clear_ R k j = false) => H1.out (show ruleAt R k = false by rw [HE.out, HOK.out, allTo_false hp hjk]; rfl))
            have q1 : (j : Int) < (k : Int) := by omega
            have q2 : (j : Int) < (R.length : Int) := by omega
            have q3 : (0 : Int) ≤ (j : Int) := by omega
            clear hc hn2 HC hra HX
            by_cases e1 : nm2 = nm
            · by_cases e2 : ra2 = ra
              · by_cases e3 : fr2 < to
                · by_cases e4 : fr < to2
                  · have HB := Lib.hid (H2.out (by rw [HCL.out]; simp [e1, e2, e3, e4]))
                    have f1 : (nm2 == nm) = true := by simp [e1]
                    have f2 : (ra2 == ra) = true := by simp [e2]
                    have f3 : 0 < max 0 (min to2 to - max fr2 fr) := by omega
                    clear e1 e2
                    go_wp2_with fail
                    go_ret
                    exact ⟨ret_bool HB.out, hs0.trans (S3.trans (hi.trans ((Same.refl _).alloc _)))⟩
                  · have HT := Lib.hid (show allTo (clear_ R k) (j + 1) = true by rw [allTo, Hin.out, HCL.out]; simp [e1, e2, e3, e4])
                    have f1 : (nm2 == nm) = true := by simp [e1]
                    have f2 : (ra2 == ra) = true := by simp [e2]
                    have f3 : ¬ 0 < max 0 (min to2 to - max fr2 fr) := by omega
                    clear e1 e2
                    go_wp2_with fail
                    go_roundw
                    case rel => exact ⟨j + 1, by omega, by go_num, HT.out, hi.trans ((Same.refl _).alloc _)⟩
                    case measure => simp [intOf]; omega
                · have HT := Lib.hid (show allTo (clear_ R k) (j + 1) = true by rw [allTo, Hin.out, HCL.out]; simp [e1, e2, e3])
                  have f1 : (nm2 == nm) = true := by simp [e1]
                  have f2 : (ra2 == ra) = true := by simp [e2]
                  have f3 : ¬ 0 < max 0 (min to2 to - max fr2 fr) := by omega
                  clear e1 e2
                  go_wp2_with fail
                  go_roundw
                  case rel => exact ⟨j + 1, by omega, by go_num, HT.out, hi.trans ((Same.refl _).alloc _)⟩
                  case measure => simp [intOf]; omega
              · have HT := Lib.hid (show allTo (clear_ R k) (j + 1) = true by rw [allTo, Hin.out, HCL.out]; simp [e2])
                have f1 : (nm2 == nm) = true := by simp [e1]
                have f2 : (ra2 == ra) = false := by simp [e2]
                clear e1 e2
                go_wp2
                go_roundw
                case rel => exact ⟨j + 1, by omega, by go_num, HT.out, hi.trans ((Same.refl _).alloc _)⟩
                case measure => simp [intOf]; omega
            · have HT := Lib.hid (show allTo (clear_ R k) (j + 1) = true by rw [allTo, Hin.out, HCL.out]; simp [e1])
              have f1 : (nm2 == nm) = false := by simp [e1]
              clear e1
              go_wp2
              go_roundw
              case rel => exact ⟨j + 1, by omega, by go_num, HT.out, hi.trans ((Same.refl _).alloc _)⟩
              case measure => simp [intOf]; omega
          · obtain rfl : j = k := by omega
            have HT := Lib.hid (show allTo (ruleAt R) (j + 1) = true by rw [allTo, Hall.out, HE.out, HOK.out, Hin.out]; rfl)
            go_wp2
            go_roundw
            case rel => exact ⟨j + 1, hlt, by go_num, HT.out, S3.trans hi⟩
            case measure => simp [intOf]; omega
    · obtain rfl : k = R.length := by omega
      go_wp2
      go_ret
      exact ⟨ret_bool (by rw [bookOk, Hall.out]; simp; omega), hs0.trans hs⟩
end Go.Proofs.YtjfmknhnplefnaaGreat
