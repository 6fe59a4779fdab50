/-
  Contracts of the smallest functions: range tests and months.
-/
import Derived.Test.YtegcfjnjgklchaaProg
import Derived.Test.YtegcfjnjgklchaaMem
import Derived.Test.YtegcfjnjgklchaaPlain
namespace Go.Proofs.Ytegcfjnjgklchaa
open Go.RowKit

theorem within_any (n lo hi : Int) (w : World) :
    Calls Try.prog 49 #[.int .i64 n, .int .i64 lo, .int .i64 hi] w fun e w' => e = .returned (.bool (inB n lo hi)) ∧ w = w' := by
  go_enter Try.func49, Try.ntmps49
  go_wp2
  all_goals go_ret
  all_goals exact ⟨ret_bool (by simp [inB]; omega), rfl⟩

theorem l01In_any (n lo hi : Int) (w : World) :
    Calls Try.prog 47 #[.int .i64 n, .int .i64 lo, .int .i64 hi] w fun e w' => e = .returned (.bool (inB n lo hi)) ∧ w = w' := by
  go_enter Try.func47, Try.ntmps47
  go_wp2
  all_goals go_ret
  all_goals exact ⟨ret_bool (by simp [inB]; omega), rfl⟩

theorem iMonthOk_any (m : Int) (w : World) :
    Calls Try.prog 46 #[.int .i64 m] w fun e w' => e = .returned (.bool (inB m 0 3599)) ∧ w = w' := by
  go_enter Try.func46, Try.ntmps46
  go_wp2_with (go_at_call 49; refine (within_any _ _ _ _).mono ?_; rintro e w' ⟨rfl, rfl⟩)
  go_ret
  exact ⟨rfl, rfl⟩

theorem sMonthOk_any (m : Int) (w : World) :
    Calls Try.prog 45 #[.int .i64 m] w fun e w' => e = .returned (.bool (inB m 0 3599)) ∧ w = w' := by
  go_enter Try.func45, Try.ntmps45
  go_wp2_with (go_at_call 47; refine (l01In_any _ _ _ _).mono ?_; rintro e w' ⟨rfl, rfl⟩)
  go_ret
  exact ⟨rfl, rfl⟩

theorem iEnd_any (m : Int) (w : World) :
    Calls Try.prog 59 #[.int .i64 m] w fun e w' => e = .returned (.bool (inB m 0 3600)) ∧ w = w' := by
  go_enter Try.func59, Try.ntmps59
  go_wp2_with (go_at_call 49; refine (within_any _ _ _ _).mono ?_; rintro e w' ⟨rfl, rfl⟩)
  go_ret
  exact ⟨rfl, rfl⟩
theorem sEnd_any (m : Int) (w : World) :
    Calls Try.prog 60 #[.int .i64 m] w fun e w' => e = .returned (.bool (inB m 0 3600)) ∧ w = w' := by
  go_enter Try.func60, Try.ntmps60
  go_wp2_with (go_at_call 47; refine (l01In_any _ _ _ _).mono ?_; rintro e w' ⟨rfl, rfl⟩)
  go_ret
  exact ⟨rfl, rfl⟩
end Go.Proofs.Ytegcfjnjgklchaa
