/-
  Valid nodes.
-/
import Derived.Test.YtjfmknhnplefnaaGreatZFrac
import Derived.Test.YtjfmknhnplefnaaGreatZCaseNode
import Derived.BigRegion
namespace Go.Proofs.YtjfmknhnplefnaaGreat
open Go.RowKit
set_option linter.unusedVariables false

set_option maxHeartbeats 1000000 in
theorem iNodeOk_1 (a b c n d i : Int) (w : World) : Calls Tryz.prog 191 #[.agg #[.int .i64 1, .int .i64 a, .int .i64 b, .int .i64 c, .int .i64 n, .int .i64 d], .int .i64 i] w fun e w' => e = .returned (.bool (nodeOk 1 a b c n d i)) ∧ Same w w' := by
  go_enter Tryz.func191, Tryz.ntmps191
  go_wp2_with fail
  · refine (iFracOk_any n d _).mono ?_
    rintro e w1 ⟨rfl, hs1⟩
    go_wp2
    all_goals go_ret
    all_goals exact ⟨ret_bool (by simp [nodeOk, *]), (((Same.refl w).alloc _).alloc _).trans hs1⟩
  all_goals go_ret
  all_goals exact ⟨ret_bool (by simp [nodeOk, *]), ((Same.refl w).alloc _).alloc _⟩

set_option maxHeartbeats 1000000 in
theorem iNodeOk_2 (a b c n d i : Int) (w : World) : Calls Tryz.prog 191 #[.agg #[.int .i64 2, .int .i64 a, .int .i64 b, .int .i64 c, .int .i64 n, .int .i64 d], .int .i64 i] w fun e w' => e = .returned (.bool (nodeOk 2 a b c n d i)) ∧ Same w w' := by
  go_enter Tryz.func191, Tryz.ntmps191
  go_wp2_with fail
  · refine (within_any _ _ _ _).mono ?_
    rintro e w1 ⟨rfl, rfl⟩
    go_wp2
    all_goals go_ret
    all_goals exact ⟨ret_bool (by simp [nodeOk, *]), ((Same.refl w).alloc _).alloc _⟩
  all_goals go_ret
  all_goals exact ⟨ret_bool (by simp [nodeOk, *]), ((Same.refl w).alloc _).alloc _⟩

set_option maxHeartbeats 1000000 in
theorem iNodeOk_no (k a b c n d i : Int) (w : World) (h1 : k ≠ 1) (h2 : k ≠ 2) (h : inB k 3 9 = false) : Calls Tryz.prog 191 #[.agg #[.int .i64 k, .int .i64 a, .int .i64 b, .int .i64 c, .int .i64 n, .int .i64 d], .int .i64 i] w fun e w' => e = .returned (.bool (nodeOk k a b c n d i)) ∧ Same w w' := by
  have HR := Lib.hid (show nodeOk k a b c n d i = false by
    have hh := inB_false.1 h
    have e8 : inB k 3 8 = false := inB_false.2 (by omega)
    have e9 : (k == 9) = false := by simp; omega
    simp [nodeOk, h1, h2, e8, e9])
  have b1 : (k == 1) = false := by simp [h1]
  have b2 : (k == 2) = false := by simp [h2]
  clear h1 h2
  go_enter Tryz.func191, Tryz.ntmps191
  go_wp2_with fail
  refine (within_any _ _ _ _).mono ?_
  rintro e w1 ⟨rfl, rfl⟩
  rw [h]
  go_wp2
  go_ret
  exact ⟨ret_bool HR.out.symm, ((Same.refl w).alloc _).alloc _⟩

set_option maxHeartbeats 2000000 in
theorem iNodeOk_9 (a b c n d i : Int) (w : World) (hi0 : 0 ≤ i) (hi1 : i ≤ 1048576) : Calls Tryz.prog 191 #[.agg #[.int .i64 9, .int .i64 a, .int .i64 b, .int .i64 c, .int .i64 n, .int .i64 d], .int .i64 i] w fun e w' => e = .returned (.bool (nodeOk 9 a b c n d i)) ∧ Same w w' := by
  go_enter Tryz.func191, Tryz.ntmps191
  go_wp2_with fail
  refine (within_any _ _ _ _).mono ?_
  rintro e w1 ⟨rfl, rfl⟩
  rw [show inB 9 3 9 = true from rfl]
  have HR := Lib.hid (fun (c n d : Int) => show nodeOk 9 a b c n d i = (n == 0 && d == 0 && (inB a 0 (i - 1) && inB b 0 (i - 1) && inB c 0 (i - 1))) by
    have e8 : inB 9 3 8 = false := rfl
    unfold nodeOk
    by_cases e1 : n = 0 <;> by_cases e2 : d = 0 <;> simp [e1, e2, e8])
  go_wp2_with fail
  go_region
  all_goals go_wp2_with (go_at_call 110; refine (within_any _ _ _ _).mono ?_; rintro e w' ⟨rfl, rfl⟩)
  all_goals go_ret
  all_goals exact ⟨ret_bool (by rw [HR.out]; first | (simp [*]; done) | (simp [inB, *]; omega) | (simp [inB] at *; omega)), by first | exact ((Same.refl w).alloc _).alloc _ | exact (((Same.refl w).alloc _).alloc _).drew | exact (((((Same.refl w).alloc _).alloc _).setCell (by simp) _).setCell (by simp) _).drew | exact ((((((Same.refl w).alloc _).alloc _).setCell (by simp) _).setCell (by simp) _).drew).setCell (by simp) _⟩

set_option maxHeartbeats 4000000 in
theorem iNodeOk_3 (k a b c n d i : Int) (w : World) (h1 : k ≠ 1) (h2 : k ≠ 2) (h9 : k ≠ 9) (h : inB k 3 9 = true) (hi0 : 0 ≤ i) (hi1 : i ≤ 1048576) :
    Calls Tryz.prog 191 #[.agg #[.int .i64 k, .int .i64 a, .int .i64 b, .int .i64 c, .int .i64 n, .int .i64 d], .int .i64 i] w fun e w' => e = .returned (.bool (nodeOk k a b c n d i)) ∧ Same w w' := by
  have h8 : inB k 3 8 = true := by have := inB_iff.1 h; exact inB_iff.2 (by omega)
  have HR := Lib.hid (fun (c n d : Int) => show nodeOk k a b c n d i = (n == 0 && d == 0 && (inB a 0 (i - 1) && inB b 0 (i - 1) && c == 0)) by
    unfold nodeOk
    rw [if_neg h1]
    by_cases e1 : n = 0 <;> by_cases e2 : d = 0 <;> simp [e1, e2, h2, h8])
  have b1 : (k == 1) = false := by simp [h1]
  have b2 : (k == 2) = false := by simp [h2]
  have b9 : (k == 9) = false := by simp [h9]
  have HI := Lib.hid h
  clear h1 h2 h9 h8 h
  go_enter Tryz.func191, Tryz.ntmps191
  go_wp2_with fail
  refine (within_any _ _ _ _).mono ?_
  rintro e w1 ⟨rfl, rfl⟩
  rw [HI.out]
  go_wp2_with fail
  go_region
  all_goals go_wp2_with (go_at_call 110; refine (within_any _ _ _ _).mono ?_; rintro e w' ⟨rfl, rfl⟩)
  all_goals go_ret
  all_goals exact ⟨ret_bool (by rw [HR.out]; first | (simp [*]; done) | (simp [show inB 0 0 (i - 1) = true from inB_iff.2 (by omega), *]; done) | (simp [inB, *]; omega) | (simp [inB] at *; omega)), by first | exact ((Same.refl w).alloc _).alloc _ | exact (((Same.refl w).alloc _).alloc _).drew | exact (((((Same.refl w).alloc _).alloc _).setCell (by simp) _).setCell (by simp) _).drew | exact ((((((Same.refl w).alloc _).alloc _).setCell (by simp) _).setCell (by simp) _).drew).setCell (by simp) _⟩

theorem iNodeOk_any (x : TNode) (i : Int) (w : World) (hi0 : 0 ≤ i) (hi1 : i ≤ 1048576) : Calls Tryz.prog 191 #[.agg #[.int .i64 x.1, .int .i64 x.2.1, .int .i64 x.2.2.1, .int .i64 x.2.2.2.1, .int .i64 x.2.2.2.2.1, .int .i64 x.2.2.2.2.2], .int .i64 i] w fun e w' => e = .returned (.bool (nodeOkT x i)) ∧ Same w w' := by
  obtain ⟨k, a, b, c, n, d⟩ := x
  show Calls _ _ _ _ (fun e w' => e = .returned (.bool (nodeOk k a b c n d i)) ∧ Same w w')
  by_cases h1 : k = 1
  · subst h1; exact iNodeOk_1 a b c n d i w
  by_cases h2 : k = 2
  · subst h2; exact iNodeOk_2 a b c n d i w
  by_cases h9 : k = 9
  · subst h9; exact iNodeOk_9 a b c n d i w hi0 hi1
  cases h : inB k 3 9
  · exact iNodeOk_no k a b c n d i w h1 h2 h
  · exact iNodeOk_3 k a b c n d i w h1 h2 h9 h hi0 hi1

theorem l08At_any (x i : Int) (w : World) : Calls Tryz.prog 210 #[.int .i64 x, .int .i64 i] w fun e w' => e = .returned (.bool (inB x 0 (i - 1))) ∧ w = w' := by
  go_enter Tryz.func210, Tryz.ntmps210
  go_wp2
  all_goals go_ret
  all_goals exact ⟨ret_bool (by rw [Bool.eq_iff_iff]; simp [inB]; omega), rfl⟩
theorem l08Two_any (k : Int) (w : World) : Calls Tryz.prog 209 #[.int .i64 k] w fun e w' => e = .returned (.bool (inB k 3 8)) ∧ w = w' := by
  go_enter Tryz.func209, Tryz.ntmps209
  go_wp2_with (go_at_call 115; refine (l01In_any _ _ _ _).mono ?_; rintro e w' ⟨rfl, rfl⟩)
  go_ret
  exact ⟨rfl, rfl⟩

set_option maxHeartbeats 4000000 in
theorem sNodeOk_any (x : TNode) (i : Int) (w : World) : Calls Tryz.prog 192 #[.agg #[.int .i64 x.1, .int .i64 x.2.1, .int .i64 x.2.2.1, .int .i64 x.2.2.2.1, .int .i64 x.2.2.2.2.1, .int .i64 x.2.2.2.2.2], .int .i64 i] w fun e w' => e = .returned (.bool (nodeOkT x i)) ∧ Same w w' := by
  obtain ⟨k, a, b, c, n, d⟩ := x
  show Calls _ _ _ _ (fun e w' => e = .returned (.bool (nodeOk k a b c n d i)) ∧ Same w w')
  by_cases h1 : k = 1
  · subst h1
    go_enter Tryz.func192, Tryz.ntmps192
    go_wp2_with fail
    · refine (sFracOk_any n d _).mono ?_
      rintro e w1 ⟨rfl, hs1⟩
      go_wp2
      all_goals go_ret
      all_goals exact ⟨ret_bool (by simp [nodeOk, *]), (((Same.refl w).alloc _).alloc _).trans hs1⟩
    all_goals go_ret
    all_goals exact ⟨ret_bool (by simp [nodeOk, *]), ((Same.refl w).alloc _).alloc _⟩
  have HR := Lib.hid (fun (a b c n d : Int) => show nodeOk k a b c n d i = (if n != 0 || d != 0 then false else if k == 2 then inB a 0 7 && b == 0 && c == 0 else if inB k 3 8 then inB a 0 (i - 1) && inB b 0 (i - 1) && c == 0 else k == 9 && inB a 0 (i - 1) && inB b 0 (i - 1) && inB c 0 (i - 1)) by
    unfold nodeOk; rw [if_neg h1]; simp)
  have b1 : (k == 1) = false := by simp [h1]
  clear h1
  go_enter Tryz.func192, Tryz.ntmps192
  all_goals go_wp2_with (first | (go_at_call 115; refine (l01In_any _ _ _ _).mono ?_; rintro e w' ⟨rfl, rfl⟩) | (go_at_call 209; refine (l08Two_any _ _).mono ?_; rintro e w' ⟨rfl, rfl⟩) | (go_at_call 210; refine (l08At_any _ _ _).mono ?_; rintro e w' ⟨rfl, rfl⟩))
  all_goals go_ret
  all_goals exact ⟨ret_bool (by rw [HR.out]; first | (simp [*]; done) | (simp [show inB 9 3 8 = false from rfl, *]; done)), ((Same.refl w).alloc _).alloc _⟩
end Go.Proofs.YtjfmknhnplefnaaGreat
