/-
  Contracts of the smallest functions: range tests and months.
-/
import Derived.Test.YthelclibokkdnaaProg
import Derived.Test.YthelclibokkdnaaMem
import Derived.Test.YthelclibokkdnaaPlain
namespace Go.Proofs.Ythelclibokkdnaa
open Go.RowKit

theorem within_any (n lo hi : Int) (w : World) :
    Calls Try.prog 63 #[.int .i64 n, .int .i64 lo, .int .i64 hi] w fun e w' => e = .returned (.bool (inB n lo hi)) ∧ w = w' := by
  go_enter Try.func63, Try.ntmps63
  go_wp2
  all_goals go_ret
  all_goals exact ⟨ret_bool (by simp [inB]; omega), rfl⟩

theorem l01In_any (n lo hi : Int) (w : World) :
    Calls Try.prog 61 #[.int .i64 n, .int .i64 lo, .int .i64 hi] w fun e w' => e = .returned (.bool (inB n lo hi)) ∧ w = w' := by
  go_enter Try.func61, Try.ntmps61
  go_wp2
  all_goals go_ret
  all_goals exact ⟨ret_bool (by simp [inB]; omega), rfl⟩

theorem iMonthOk_any (m : Int) (w : World) :
    Calls Try.prog 62 #[.int .i64 m] w fun e w' => e = .returned (.bool (inB m 0 3599)) ∧ w = w' := by
  go_enter Try.func62, Try.ntmps62
  go_wp2_with (go_at_call 63; refine (within_any _ _ _ _).mono ?_; rintro e w' ⟨rfl, rfl⟩)
  go_ret
  exact ⟨rfl, rfl⟩

theorem sMonthOk_any (m : Int) (w : World) :
    Calls Try.prog 60 #[.int .i64 m] w fun e w' => e = .returned (.bool (inB m 0 3599)) ∧ w = w' := by
  go_enter Try.func60, Try.ntmps60
  go_wp2_with (go_at_call 61; refine (l01In_any _ _ _ _).mono ?_; rintro e w' ⟨rfl, rfl⟩)
  go_ret
  exact ⟨rfl, rfl⟩

end Go.Proofs.Ythelclibokkdnaa
