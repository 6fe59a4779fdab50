/-
  Contracts of the smallest functions: range tests and months.
-/
import Derived.Test.YtccgbilgfnoheaaProg
import Derived.Test.YtccgbilgfnoheaaMem
import Derived.Test.YtccgbilgfnoheaaPlain
namespace Go.Proofs.Ytccgbilgfnoheaa
open Go.RowKit

theorem within_any (n lo hi : Int) (w : World) :
    Calls Try.prog 59 #[.int .i64 n, .int .i64 lo, .int .i64 hi] w fun e w' => e = .returned (.bool (inB n lo hi)) ∧ w = w' := by
  go_enter Try.func59, Try.ntmps59
  go_wp2
  all_goals go_ret
  all_goals exact ⟨ret_bool (by simp [inB]; omega), rfl⟩

theorem l01In_any (n lo hi : Int) (w : World) :
    Calls Try.prog 65 #[.int .i64 n, .int .i64 lo, .int .i64 hi] w fun e w' => e = .returned (.bool (inB n lo hi)) ∧ w = w' := by
  go_enter Try.func65, Try.ntmps65
  go_wp2
  all_goals go_ret
  all_goals exact ⟨ret_bool (by simp [inB]; omega), rfl⟩

theorem iMonthOk_any (m : Int) (w : World) :
    Calls Try.prog 62 #[.int .i64 m] w fun e w' => e = .returned (.bool (inB m 0 3599)) ∧ w = w' := by
  go_enter Try.func62, Try.ntmps62
  go_wp2_with (go_at_call 59; refine (within_any _ _ _ _).mono ?_; rintro e w' ⟨rfl, rfl⟩)
  go_ret
  exact ⟨rfl, rfl⟩

theorem sMonthOk_any (m : Int) (w : World) :
    Calls Try.prog 68 #[.int .i64 m] w fun e w' => e = .returned (.bool (inB m 0 3599)) ∧ w = w' := by
  go_enter Try.func68, Try.ntmps68
  go_wp2_with (go_at_call 65; refine (l01In_any _ _ _ _).mono ?_; rintro e w' ⟨rfl, rfl⟩)
  go_ret
  exact ⟨rfl, rfl⟩

end Go.Proofs.Ytccgbilgfnoheaa
