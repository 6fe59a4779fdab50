/-
  Valid formulas and rules.
-/
import Derived.Test.YtjfmknhnplefnaaGreatZNodeOk
import Derived.Test.YtjfmknhnplefnaaGreatZCaseNode
namespace Go.Proofs.YtjfmknhnplefnaaGreat
open Go.RowKit
set_option linter.unusedVariables false

set_option maxHeartbeats 1000000 in
theorem sFormulaOk_any (A : Option Addr) (c : Nat) (L : List TNode) (w : World) (hz : L.length ≤ 1048576) (hA : AtNode w A L) :
    Calls Tryz.prog 166 #[.slice A L.length c] w fun e w' => e = .returned (.bool (formulaOk L)) ∧ Same w w' := by
  go_enter Tryz.func166, Tryz.ntmps166
  go_wp2
  go_loopw [3] (fun i wr => ∃ k : Nat, k ≤ L.length ∧ i = .int .i64 k ∧ Hid (allTo (nodeAt L) k = true) ∧ Same w wr) (fun i _ => L.length - (intOf i).toNat)
  case atStart => exact ⟨0, Nat.zero_le _, rfl, rfl, Same.refl _⟩
  case round =>
    obtain ⟨k, hk, rfl, Hall, hs⟩ := hrel
    by_cases hlt : k < L.length
    · obtain ⟨b, off, x, rfl, hc, HX, hbl⟩ := (hA.same hs).at_ hlt
      have HE := Lib.hid (nodeAt_eq HX.out)
      have H1 := Lib.hid (formulaOk_false hlt)
      clear hA HX
      obtain ⟨f0, f1, f2, f3, f4, f5⟩ := x
      have c0 := hc 0 _ rfl
      have c1 := hc 1 _ rfl
      have c2 := hc 2 _ rfl
      have c3 := hc 3 _ rfl
      have c4 := hc 4 _ rfl
      have c5 := hc 5 _ rfl
      simp only [Nat.add_zero] at c0
      clear hc
      go_wp2_with fail
      refine (sNodeOk_any (f0, f1, f2, f3, f4, f5) k _).mono ?_
      rintro e w1 ⟨rfl, hs1⟩
      have hss := (hs).trans hs1
      clear hs hs1 c0 c1 c2 c3 c4 c5
      cases hp : nodeOkT (f0, f1, f2, f3, f4, f5) k
      · have HP := Lib.hid (H1.out (HE.out.trans hp))
        go_wp2
        go_ret
        exact ⟨ret_bool HP.out, hss⟩
      · have HP := Lib.hid (show allTo (nodeAt L) (k + 1) = true by rw [allTo, Hall.out, HE.out, hp]; rfl)
        go_wp2
        go_roundw
        case rel => exact ⟨k + 1, hlt, by go_num, HP, hss⟩
        case measure => simp [intOf]; omega
    · obtain rfl : k = L.length := by omega
      go_wp2_with (go_at_call 115; refine (l01In_any _ _ _ _).mono ?_; rintro e w' ⟨rfl, rfl⟩)
      go_ret
      exact ⟨ret_bool (by rw [formulaOk, Hall.out]; simp), hs⟩

set_option maxHeartbeats 1000000 in
theorem iFormulaOk_any (A : Option Addr) (c : Nat) (L : List TNode) (w : World) (hz : L.length ≤ 1048576) (hA : AtNode w A L) :
    Calls Tryz.prog 165 #[.slice A L.length c] w fun e w' => e = .returned (.bool (formulaOk L)) ∧ Same w w' := by
  go_enter Tryz.func165, Tryz.ntmps165
  go_wp2
  go_loopw [7] (fun i wr => ∃ k : Nat, k ≤ L.length ∧ i = .int .i64 k ∧ Hid (allTo (nodeAt L) k = true) ∧ Same w wr) (fun i _ => L.length - (intOf i).toNat)
  case atStart => exact ⟨0, Nat.zero_le _, rfl, rfl, Same.refl _⟩
  case round =>
    obtain ⟨k, hk, rfl, Hall, hs⟩ := hrel
    by_cases hlt : k < L.length
    · obtain ⟨b, off, x, rfl, hc, HX, hbl⟩ := (hA.same hs).at_ hlt
      have HE := Lib.hid (nodeAt_eq HX.out)
      have H1 := Lib.hid (formulaOk_false hlt)
      clear hA HX
      obtain ⟨f0, f1, f2, f3, f4, f5⟩ := x
      have c0 := hc 0 _ rfl
      have c1 := hc 1 _ rfl
      have c2 := hc 2 _ rfl
      have c3 := hc 3 _ rfl
      have c4 := hc 4 _ rfl
      have c5 := hc 5 _ rfl
      simp only [Nat.add_zero] at c0
      clear hc
      go_wp2_with fail
      refine (iNodeOk_any (f0, f1, f2, f3, f4, f5) k _ (by omega) (by omega)).mono ?_
      rintro e w1 ⟨rfl, hs1⟩
      have hss := (hs.alloc _).trans hs1
      clear hs hs1 c0 c1 c2 c3 c4 c5
      cases hp : nodeOkT (f0, f1, f2, f3, f4, f5) k
      · have HP := Lib.hid (H1.out (HE.out.trans hp))
        go_wp2
        go_ret
        exact ⟨ret_bool HP.out, hss⟩
      · have HP := Lib.hid (show allTo (nodeAt L) (k + 1) = true by rw [allTo, Hall.out, HE.out, hp]; rfl)
        go_wp2
        go_roundw
        case rel => exact ⟨k + 1, hlt, by go_num, HP, hss⟩
        case measure => simp [intOf]; omega
    · obtain rfl : k = L.length := by omega
      go_wp2_with (go_at_call 110; refine (within_any _ _ _ _).mono ?_; rintro e w' ⟨rfl, rfl⟩)
      go_ret
      exact ⟨ret_bool (by rw [formulaOk, Hall.out]; simp), hs⟩

theorem iSpan_any (f t : Int) (w : World) : Calls Tryz.prog 128 #[.int .i64 f, .int .i64 t] w fun e w' => e = .returned (.bool (decide (0 ≤ f) && decide (f < t) && decide (t ≤ 3600))) ∧ w = w' := by
  go_enter Tryz.func128, Tryz.ntmps128
  go_wp2
  all_goals go_ret
  all_goals exact ⟨ret_bool (by first | (simp [*]; done) | (simp [*]; omega) | (simp [*]; intros; omega)), rfl⟩

def RuleCells (r : TRule) (B : Option Addr) (d : Nat) : Value := .agg #[.int .i64 r.name, .int .i64 r.from_, .int .i64 r.to_, .int .i64 r.joined, .int .i64 r.rank, .int .i64 r.mode, .slice B r.nodes.length d]

set_option maxHeartbeats 2000000 in
theorem iRuleOk_any (nm fr to jo ra mo : Int) (B : Option Addr) (d : Nat) (N : List TNode) (w : World) (hz : N.length ≤ 1048576) (hB : AtNode w B N) :
    Calls Tryz.prog 108 #[.agg #[.int .i64 nm, .int .i64 fr, .int .i64 to, .int .i64 jo, .int .i64 ra, .int .i64 mo, .slice B N.length d]] w fun e w' => e = .returned (.bool (ruleOk ⟨nm, fr, to, jo, ra, mo, N⟩)) ∧ Same w w' := by
  have HR := Lib.hid (show ruleOk ⟨nm, fr, to, jo, ra, mo, N⟩ = (inB nm 1 20 && (decide (0 ≤ fr) && decide (fr < to) && decide (to ≤ 3600)) && inB jo 1 3600 && inB ra 0 9 && inB mo 1 4 && formulaOk N) from rfl)
  go_enter Tryz.func108, Tryz.ntmps108
  go_wp2_with (first | (go_at_call 110; refine (within_any _ _ _ _).mono ?_; rintro e w' ⟨rfl, rfl⟩) | (go_at_call 128; refine (iSpan_any _ _ _).mono ?_; rintro e w' ⟨rfl, rfl⟩) | (go_at_call 165; refine (iFormulaOk_any B d N _ hz (hB.same ((Same.refl w).alloc _))).mono ?_; rintro e w7 ⟨rfl, hs7⟩))
  all_goals go_ret
  all_goals exact ⟨ret_bool (by rw [HR.out]; first | (simp [*]; done) | (simp [*]; intros; exfalso; omega)), by first | exact ((Same.refl w).alloc _).trans hs7 | exact (Same.refl w).alloc _⟩

set_option maxHeartbeats 2000000 in
theorem sRuleOk_any (nm fr to jo ra mo : Int) (B : Option Addr) (d : Nat) (N : List TNode) (w : World) (hz : N.length ≤ 1048576) (hB : AtNode w B N) :
    Calls Tryz.prog 111 #[.agg #[.int .i64 nm, .int .i64 fr, .int .i64 to, .int .i64 jo, .int .i64 ra, .int .i64 mo, .slice B N.length d]] w fun e w' => e = .returned (.bool (ruleOk ⟨nm, fr, to, jo, ra, mo, N⟩)) ∧ Same w w' := by
  have HR := Lib.hid (show ruleOk ⟨nm, fr, to, jo, ra, mo, N⟩ = (inB nm 1 20 && (decide (0 ≤ fr) && decide (fr < to) && decide (to ≤ 3600)) && inB jo 1 3600 && inB ra 0 9 && inB mo 1 4 && formulaOk N) from rfl)
  go_enter Tryz.func111, Tryz.ntmps111
  go_wp2_with (first | (go_at_call 115; refine (l01In_any _ _ _ _).mono ?_; rintro e w' ⟨rfl, rfl⟩) | (go_at_call 166; refine (sFormulaOk_any B d N _ hz (hB.same ((Same.refl w).alloc _))).mono ?_; rintro e w7 ⟨rfl, hs7⟩))
  all_goals go_ret
  all_goals exact ⟨ret_bool (by rw [HR.out]; first | (simp [*]; done) | (simp [*]; intros; exfalso; omega)), by first | exact ((Same.refl w).alloc _).trans hs7 | exact (Same.refl w).alloc _⟩
end Go.Proofs.YtjfmknhnplefnaaGreat
