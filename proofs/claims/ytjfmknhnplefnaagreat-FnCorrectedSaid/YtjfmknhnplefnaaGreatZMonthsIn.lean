/-
  Months that two spans share.
-/
import Derived.Test.YtjfmknhnplefnaaGreatZBookOk
import Derived.Test.YtjfmknhnplefnaaGreatZPlain
namespace Go.Proofs.YtjfmknhnplefnaaGreat
open Go.RowKit
set_option linter.unusedVariables false
set_option linter.unusedSimpArgs false

set_option maxHeartbeats 2000000 in
theorem sMonthsIn_any (a b c d : Int) (w : World) :
    Calls Tryz.prog 112 #[.int .i64 a, .int .i64 b, .int .i64 c, .int .i64 d] w fun e w' => e = .returned (.int .i64 (monthsIn a b c d)) ∧ w = w' := by
  have HR := Lib.hid (show monthsIn a b c d = if inB a 0 3600 && inB b 0 3600 && inB c 0 3600 && inB d 0 3600 then max 0 (min b d - max a c) else 0 from rfl)
  cases ha : inB a 0 3600 <;> cases hb : inB b 0 3600 <;> cases hc : inB c 0 3600 <;> cases hd : inB d 0 3600
  case true.true.true.true =>
    rw [HR.out, ha, hb, hc, hd]
    exact sMonthsIn_ok a b c d w ha hb hc hd
  all_goals
    have HV := Lib.hid (show monthsIn a b c d = 0 by rw [HR.out, ha, hb, hc, hd]; rfl)
    have HA := Lib.hid ha
    have HB := Lib.hid hb
    have HC := Lib.hid hc
    have HD := Lib.hid hd
    clear ha hb hc hd HR
    go_enter Tryz.func112, Tryz.ntmps112
    go_wp2_with (go_at_call 76; refine (l04End_any _ _).mono ?_; rintro e w1 ⟨rfl, rfl⟩; (first | rw [HA.out] | rw [HB.out] | rw [HC.out] | rw [HD.out]))
    all_goals (try go_ret)
    all_goals (first | exact ⟨ret_int (by rw [HV.out]), rfl⟩ | exact ⟨by rw [HV.out], rfl⟩)
end Go.Proofs.YtjfmknhnplefnaaGreat
