/-
  The rule that applies.
-/
import Derived.Test.YtjfmknhnplefnaaGreatZBookOk
namespace Go.Proofs.YtjfmknhnplefnaaGreat
open Go.RowKit
set_option linter.unusedVariables false

theorem bestTo_succ {R : List TRule} {k : Nat} {r : TRule} (name m joined : Int) (h : R[k]? = some r) : bestTo R name m joined (k + 1) =
    if (applies r name m joined && (decide (bestTo R name m joined k < 0) || decide ((R.getD (bestTo R name m joined k).toNat default).rank < r.rank))) = true then (k : Int) else bestTo R name m joined k := by
  have e : R.getD k default = r := by simp [List.getD, h]
  show (if (applies (R.getD k default) name m joined && (decide (bestTo R name m joined k < 0) || decide ((R.getD (bestTo R name m joined k).toNat default).rank < (R.getD k default).rank))) = true then (k : Int) else bestTo R name m joined k) = _
  rw [e]

set_option maxRecDepth 10000 in
set_option maxHeartbeats 8000000 in
theorem sl10For_any (A : Option Addr) (c : Nat) (R : List TRule) (name m joined : Int) (w : World) (hz : R.length ≤ 1048576) (hA : RulesAt w A R) :
    Calls Tryz.prog 124 #[.agg #[.slice A R.length c], .int .i64 name, .int .i64 m, .int .i64 joined] w fun e w' => e = .returned (.int .i64 (bestTo R name m joined R.length)) ∧ Same w w' := by
  go_enter Tryz.func124, Tryz.ntmps124
  go_wp2
  have h1 : BoxAt (w.alloc (.cells #[.slice A R.length c] 26)) (w.heap.size) 26 [.slice A R.length c] := by simpa using (BoxAt.new w 26 [.slice A R.length c])
  have hs0 := (Same.alloc (Same.refl w) (.cells #[.slice A R.length c] 26))
  generalize (w.alloc (.cells #[.slice A R.length c] 26)) = w0 at *
  have hA0 := hA.same hs0
  have hl0 := h1.lt
  go_loopw [9, 10] (fun t9 i wr => ∃ k : Nat, k ≤ R.length ∧ i = .int .i64 k ∧ t9 = .int .i64 (bestTo R name m joined k) ∧ Same w0 wr) (fun _ i _ => R.length - (intOf i).toNat)
  case atStart => exact ⟨0, Nat.zero_le _, rfl, rfl, Same.refl _⟩
  case round =>
    obtain ⟨k, hk, rfl, rfl, hs⟩ := hrel
    by_cases hlt : k < R.length
    · have hb := h1.same hs
      have b0 := hb.cell 0 rfl
      have hbl0 := hb.lt
      obtain ⟨b, off, r, B, d, rfl, hc, HX, hn, hbl⟩ := (hA0.same hs).at_ hlt
      have hbs := bestTo_succ name m joined HX.out
      have hbr := bestTo_range R name m joined k
      obtain ⟨nm, fr, to, jo, ra, mo, N⟩ := r
      simp only [applies] at hbs
      obtain ⟨bb, hbb⟩ : ∃ bb, bb = bestTo R name m joined k := ⟨_, rfl⟩
      rw [← hbb] at hbs hbr ⊢
      have HBS : Hid _ := Lib.hid hbs
      obtain ⟨c0, c1, c2, c3, c4, c5, c6⟩ := rule_cells hc
      clear hc hn HX hbb hbs h1
      by_cases e1 : nm = name
      · by_cases e2 : fr ≤ m
        · by_cases e3 : m < to
          · by_cases e4 : joined < jo
            · by_cases e5 : bb < 0
              · skip
                have HT := Lib.hid (show bestTo R name m joined (k + 1) = (k : Int) by rw [HBS.out]; simp [e1, e2, e3, e4, e5])
                have g0 : (nm == name) = true := by simp [e1]
                have g1 : decide (fr ≤ m) = true := by first | (simp; done) | (simp; omega)
                have g2 : decide (m < to) = true := by first | (simp; done) | (simp; omega)
                have g3 : decide (joined < jo) = true := by first | (simp; done) | (simp; omega)
                have g4 : decide (bb < 0) = true := by first | (simp; done) | (simp; omega)
                clear e1
                go_wp2
                go_quiet (fail)
                go_wp2
                go_roundw
                case rel => exact ⟨k + 1, hlt, by go_num, by rw [HT.out], (hs.alloc _).drewN _⟩
                case measure => simp [intOf]; omega
              · obtain ⟨bn, hbn⟩ : ∃ bn : Nat, bb = bn := ⟨bb.toNat, by omega⟩
                subst hbn
                obtain ⟨b', off', r2, B2, d2, hbe, hc2, HY, _, _⟩ := (hA0.same hs).at_ (show bn < R.length by omega)
                injection hbe with hbe
                injection hbe with hb1 hb2
                subst hb1 hb2
                have rk := hc2 4 _ rfl
                obtain ⟨rb, hrb⟩ : ∃ rb, rb = r2.rank := ⟨_, rfl⟩
                have HG : (R.getD ((bn : Int).toNat) default).rank = rb := by rw [hrb]; simp [List.getD, HY.out]
                rw [HG] at HBS
                dsimp only at rk
                rw [← hrb] at rk
                clear hc2 hrb HY HG
                have q4 : (0 : Int) ≤ (bn : Int) := by omega
                have q5 : (bn : Int) < (R.length : Int) := by omega
                have e5b : ¬ (bn : Int) < 0 := by omega
                by_cases e6 : rb < ra
                · skip
                  have HT := Lib.hid (show bestTo R name m joined (k + 1) = (k : Int) by rw [HBS.out]; simp [e1, e2, e3, e4, e5, e6])
                  have g0 : (nm == name) = true := by simp [e1]
                  have g1 : decide (fr ≤ m) = true := by first | (simp; done) | (simp; omega)
                  have g2 : decide (m < to) = true := by first | (simp; done) | (simp; omega)
                  have g3 : decide (joined < jo) = true := by first | (simp; done) | (simp; omega)
                  have g4 : decide ((bn : Int) < 0) = false := by first | (simp; done) | (simp; omega)
                  have g5 : decide (rb < ra) = true := by first | (simp; done) | (simp; omega)
                  clear e1
                  go_wp2
                  go_quiet (fail)
                  go_wp2
                  go_roundw
                  case rel => exact ⟨k + 1, hlt, by go_num, by rw [HT.out], (hs.alloc _).drewN _⟩
                  case measure => simp [intOf]; omega
                · skip
                  have HT := Lib.hid (show bestTo R name m joined (k + 1) = (bn : Int) by rw [HBS.out]; simp [e1, e2, e3, e4, e5, e6])
                  have g0 : (nm == name) = true := by simp [e1]
                  have g1 : decide (fr ≤ m) = true := by first | (simp; done) | (simp; omega)
                  have g2 : decide (m < to) = true := by first | (simp; done) | (simp; omega)
                  have g3 : decide (joined < jo) = true := by first | (simp; done) | (simp; omega)
                  have g4 : decide ((bn : Int) < 0) = false := by first | (simp; done) | (simp; omega)
                  have g5 : decide (rb < ra) = false := by first | (simp; done) | (simp; omega)
                  clear e1
                  go_wp2
                  go_quiet (fail)
                  go_wp2
                  go_roundw
                  case rel => exact ⟨k + 1, hlt, by go_num, by rw [HT.out], (hs.alloc _).drewN _⟩
                  case measure => simp [intOf]; omega
            · skip
              have HT := Lib.hid (show bestTo R name m joined (k + 1) = bb by rw [HBS.out]; simp [e1, e2, e3, e4])
              have g0 : (nm == name) = true := by simp [e1]
              have g1 : decide (fr ≤ m) = true := by first | (simp; done) | (simp; omega)
              have g2 : decide (m < to) = true := by first | (simp; done) | (simp; omega)
              have g3 : decide (joined < jo) = false := by first | (simp; done) | (simp; omega)
              clear e1
              go_wp2
              go_quiet (fail)
              go_wp2
              go_roundw
              case rel => exact ⟨k + 1, hlt, by go_num, by rw [HT.out], (hs.alloc _).drewN _⟩
              case measure => simp [intOf]; omega
          · skip
            have HT := Lib.hid (show bestTo R name m joined (k + 1) = bb by rw [HBS.out]; simp [e1, e2, e3])
            have g0 : (nm == name) = true := by simp [e1]
            have g1 : decide (fr ≤ m) = true := by first | (simp; done) | (simp; omega)
            have g2 : decide (m < to) = false := by first | (simp; done) | (simp; omega)
            clear e1
            go_wp2
            go_quiet (fail)
            go_wp2
            go_roundw
            case rel => exact ⟨k + 1, hlt, by go_num, by rw [HT.out], (hs.alloc _).drewN _⟩
            case measure => simp [intOf]; omega
        · skip
          have HT := Lib.hid (show bestTo R name m joined (k + 1) = bb by rw [HBS.out]; simp [e1, e2])
          have g0 : (nm == name) = true := by simp [e1]
          have g1 : decide (fr ≤ m) = false := by first | (simp; done) | (simp; omega)
          clear e1
          go_wp2
          go_quiet (fail)
          go_wp2
          go_roundw
          case rel => exact ⟨k + 1, hlt, by go_num, by rw [HT.out], (hs.alloc _).drewN _⟩
          case measure => simp [intOf]; omega
      · skip
        have HT := Lib.hid (show bestTo R name m joined (k + 1) = bb by rw [HBS.out]; simp [e1])
        have g0 : (nm == name) = false := by simp [e1]
        clear e1
        go_wp2
        go_quiet (fail)
        go_wp2
        go_roundw
        case rel => exact ⟨k + 1, hlt, by go_num, by rw [HT.out], (hs.alloc _).drewN _⟩
        case measure => simp [intOf]; omega
    · obtain rfl : k = R.length := by omega
      have hb := h1.same hs
      have b0 := hb.cell 0 rfl
      go_wp2
      go_ret
      exact ⟨rfl, hs0.trans hs⟩

set_option maxRecDepth 10000 in
set_option maxHeartbeats 8000000 in
theorem iRuleFor_any (A : Option Addr) (c : Nat) (R : List TRule) (name m joined : Int) (w : World) (hz : R.length ≤ 1048576) (hcap : R.length ≤ c) (hN : SmallR R 1048576) (hA : RulesAt w A R) :
    Calls Tryz.prog 72 #[.agg #[.slice A R.length c], .int .i64 name, .int .i64 m, .int .i64 joined] w fun e w' => e = .returned (.int .i64 (ruleFor R name m joined)) ∧ Same w w' := by
  go_enter Tryz.func72, Tryz.ntmps72
  go_wp2
  have h1 : BoxAt (w.alloc (.cells #[.slice A R.length c] 26)) (w.heap.size) 26 [.slice A R.length c] := by simpa using (BoxAt.new w 26 [.slice A R.length c])
  have hs0 := (Same.alloc (Same.refl w) (.cells #[.slice A R.length c] 26))
  generalize (w.alloc (.cells #[.slice A R.length c] 26)) = w0 at *
  have hA0 := hA.same hs0
  have hl0 := h1.lt
  go_loopw [9, 15] (fun t9 i wr => ∃ k : Nat, k ≤ R.length ∧ i = .int .i64 k ∧ t9 = .int .i64 (bestTo R name m joined k) ∧ Same w0 wr) (fun _ i _ => R.length - (intOf i).toNat)
  case atStart => exact ⟨0, Nat.zero_le _, rfl, rfl, Same.refl _⟩
  case round =>
    obtain ⟨k, hk, rfl, rfl, hs⟩ := hrel
    by_cases hlt : k < R.length
    · have hb := h1.same hs
      have b0 := hb.cell 0 rfl
      have hbl0 := hb.lt
      obtain ⟨b, off, r, B, d, rfl, hc, HX, hn, hbl⟩ := (hA0.same hs).at_ hlt
      have hbs := bestTo_succ name m joined HX.out
      have hbr := bestTo_range R name m joined k
      obtain ⟨nm, fr, to, jo, ra, mo, N⟩ := r
      simp only [applies] at hbs
      obtain ⟨bb, hbb⟩ : ∃ bb, bb = bestTo R name m joined k := ⟨_, rfl⟩
      rw [← hbb] at hbs hbr ⊢
      have HBS : Hid _ := Lib.hid hbs
      obtain ⟨c0, c1, c2, c3, c4, c5, c6⟩ := rule_cells hc
      clear hc hn HX hbb hbs h1
      by_cases e1 : nm = name
      · by_cases e2 : fr ≤ m
        · by_cases e3 : m < to
          · by_cases e4 : joined < jo
            · by_cases e5 : bb < 0
              · skip
                have HT := Lib.hid (show bestTo R name m joined (k + 1) = (k : Int) by rw [HBS.out]; simp [e1, e2, e3, e4, e5])
                have g0 : (nm == name) = true := by simp [e1]
                have g1 : decide (fr ≤ m) = true := by first | (simp; done) | (simp; omega)
                have g2 : decide (m < to) = true := by first | (simp; done) | (simp; omega)
                have g3 : decide (joined < jo) = true := by first | (simp; done) | (simp; omega)
                have g4 : decide (bb < 0) = true := by first | (simp; done) | (simp; omega)
                clear e1
                go_wp2
                go_quiet (fail)
                go_wp2
                go_roundw
                case rel => exact ⟨k + 1, hlt, by go_num, by rw [HT.out], (hs.alloc _).drewN _⟩
                case measure => simp [intOf]; omega
              · obtain ⟨bn, hbn⟩ : ∃ bn : Nat, bb = bn := ⟨bb.toNat, by omega⟩
                subst hbn
                obtain ⟨b', off', r2, B2, d2, hbe, hc2, HY, _, _⟩ := (hA0.same hs).at_ (show bn < R.length by omega)
                injection hbe with hbe
                injection hbe with hb1 hb2
                subst hb1 hb2
                have rk := hc2 4 _ rfl
                obtain ⟨rb, hrb⟩ : ∃ rb, rb = r2.rank := ⟨_, rfl⟩
                have HG : (R.getD ((bn : Int).toNat) default).rank = rb := by rw [hrb]; simp [List.getD, HY.out]
                rw [HG] at HBS
                dsimp only at rk
                rw [← hrb] at rk
                clear hc2 hrb HY HG
                have q4 : (0 : Int) ≤ (bn : Int) := by omega
                have q5 : (bn : Int) < (R.length : Int) := by omega
                have e5b : ¬ (bn : Int) < 0 := by omega
                by_cases e6 : rb < ra
                · skip
                  have HT := Lib.hid (show bestTo R name m joined (k + 1) = (k : Int) by rw [HBS.out]; simp [e1, e2, e3, e4, e5, e6])
                  have g0 : (nm == name) = true := by simp [e1]
                  have g1 : decide (fr ≤ m) = true := by first | (simp; done) | (simp; omega)
                  have g2 : decide (m < to) = true := by first | (simp; done) | (simp; omega)
                  have g3 : decide (joined < jo) = true := by first | (simp; done) | (simp; omega)
                  have g4 : decide ((bn : Int) < 0) = false := by first | (simp; done) | (simp; omega)
                  have g5 : decide (rb < ra) = true := by first | (simp; done) | (simp; omega)
                  clear e1
                  go_wp2
                  go_quiet (fail)
                  go_wp2
                  go_roundw
                  case rel => exact ⟨k + 1, hlt, by go_num, by rw [HT.out], (hs.alloc _).drewN _⟩
                  case measure => simp [intOf]; omega
                · skip
                  have HT := Lib.hid (show bestTo R name m joined (k + 1) = (bn : Int) by rw [HBS.out]; simp [e1, e2, e3, e4, e5, e6])
                  have g0 : (nm == name) = true := by simp [e1]
                  have g1 : decide (fr ≤ m) = true := by first | (simp; done) | (simp; omega)
                  have g2 : decide (m < to) = true := by first | (simp; done) | (simp; omega)
                  have g3 : decide (joined < jo) = true := by first | (simp; done) | (simp; omega)
                  have g4 : decide ((bn : Int) < 0) = false := by first | (simp; done) | (simp; omega)
                  have g5 : decide (rb < ra) = false := by first | (simp; done) | (simp; omega)
                  clear e1
                  go_wp2
                  go_quiet (fail)
                  go_wp2
                  go_roundw
                  case rel => exact ⟨k + 1, hlt, by go_num, by rw [HT.out], (hs.alloc _).drewN _⟩
                  case measure => simp [intOf]; omega
            · skip
              have HT := Lib.hid (show bestTo R name m joined (k + 1) = bb by rw [HBS.out]; simp [e1, e2, e3, e4])
              have g0 : (nm == name) = true := by simp [e1]
              have g1 : decide (fr ≤ m) = true := by first | (simp; done) | (simp; omega)
              have g2 : decide (m < to) = true := by first | (simp; done) | (simp; omega)
              have g3 : decide (joined < jo) = false := by first | (simp; done) | (simp; omega)
              clear e1
              go_wp2
              go_quiet (fail)
              go_wp2
              go_roundw
              case rel => exact ⟨k + 1, hlt, by go_num, by rw [HT.out], (hs.alloc _).drewN _⟩
              case measure => simp [intOf]; omega
          · skip
            have HT := Lib.hid (show bestTo R name m joined (k + 1) = bb by rw [HBS.out]; simp [e1, e2, e3])
            have g0 : (nm == name) = true := by simp [e1]
            have g1 : decide (fr ≤ m) = true := by first | (simp; done) | (simp; omega)
            have g2 : decide (m < to) = false := by first | (simp; done) | (simp; omega)
            clear e1
            go_wp2
            go_quiet (fail)
            go_wp2
            go_roundw
            case rel => exact ⟨k + 1, hlt, by go_num, by rw [HT.out], (hs.alloc _).drewN _⟩
            case measure => simp [intOf]; omega
        · skip
          have HT := Lib.hid (show bestTo R name m joined (k + 1) = bb by rw [HBS.out]; simp [e1, e2])
          have g0 : (nm == name) = true := by simp [e1]
          have g1 : decide (fr ≤ m) = false := by first | (simp; done) | (simp; omega)
          clear e1
          go_wp2
          go_quiet (fail)
          go_wp2
          go_roundw
          case rel => exact ⟨k + 1, hlt, by go_num, by rw [HT.out], (hs.alloc _).drewN _⟩
          case measure => simp [intOf]; omega
      · skip
        have HT := Lib.hid (show bestTo R name m joined (k + 1) = bb by rw [HBS.out]; simp [e1])
        have g0 : (nm == name) = false := by simp [e1]
        clear e1
        go_wp2
        go_quiet (fail)
        go_wp2
        go_roundw
        case rel => exact ⟨k + 1, hlt, by go_num, by rw [HT.out], (hs.alloc _).drewN _⟩
        case measure => simp [intOf]; omega
    · obtain rfl : k = R.length := by omega
      have hb := h1.same hs
      have b0 := hb.cell 0 rfl
      go_wp2_with fail
      refine (iBookOk_any A c R _ hz hcap hN (hA0.same hs)).mono ?_
      rintro e w1 ⟨rfl, hs1⟩
      have HRF := Lib.hid (show ruleFor R name m joined = if bookOk R = true then bestTo R name m joined R.length else -1 from rfl)
      cases hok : bookOk R
      · have HV := Lib.hid (show ruleFor R name m joined = -1 by rw [HRF.out, hok]; rfl)
        clear hok
        go_wp2
        go_ret
        exact ⟨ret_int HV.out.symm, (hs0.trans hs).trans hs1⟩
      · have HV := Lib.hid (show ruleFor R name m joined = bestTo R name m joined R.length by rw [HRF.out, hok]; rfl)
        clear hok
        go_wp2
        go_ret
        exact ⟨ret_int HV.out.symm, (hs0.trans hs).trans hs1⟩
end Go.Proofs.YtjfmknhnplefnaaGreat
