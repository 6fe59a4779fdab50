/-
  FnExactProofsOk: for every list of integers the program's ProofsOk and the reference's answer alike, and the list is left as it was. No condition.
-/
import Derived.Test.YtegcfjnjgklchaaProofsOk
import Derived.Test.YtegcfjnjgklchaaIntS
namespace Go.Proofs.Ytegcfjnjgklchaa
open Go.RowKit

set_option maxHeartbeats 400000 in
theorem lawProofsOk (A : Option Addr) (c : Nat) (zs : List Int) (w : World) (hz : zs.length ≤ 9223372036854775807) (hA : IntsAt w A zs) :
    Calls Try.prog 3 #[.slice A zs.length c] w fun e w' => e = .returned (.bool true) ∧ Same w w' := by
  by_cases hl : zs.length ≤ 1048576
  · have hE := Lib.hid (show (proofsOk zs != proofsOk zs) = false by simp)
    go_enter Try.func3, Try.ntmps3
    go_wp2_with fail
    refine (toIntS_any A c zs _ hl hA).mono ?_
    rintro e w1 ⟨rfl, ho1, hs1⟩
    go_wp2_with fail
    refine (sProofsOk_any _ _ zs _ hz ho1.ints).mono ?_
    rintro e w2 ⟨rfl, hd2⟩
    have hs2 := hs1.drewed hd2
    go_wp2_with fail
    refine (toIntS_any A c zs _ hl (hA.same hs2)).mono ?_
    rintro e w3 ⟨rfl, ho3, hs3⟩
    go_wp2_with fail
    refine (iProofsOk_any _ _ zs _ hz ho3.ints).mono ?_
    rintro e w4 ⟨rfl, rfl⟩
    go_wp2_with fail
    refine (toIntS_any A c zs _ hl (hA.same (hs2.trans hs3))).mono ?_
    rintro e w5 ⟨rfl, ho5, hs5⟩
    go_wp2_with fail
    refine (eqIntS_any _ _ _ _ zs zs _ hz hz (ho3.ints.same hs5) ho5.ints).mono ?_
    rintro e w6 ⟨rfl, hd6⟩
    go_wp2_with fail
    go_ret
    exact ⟨rfl, ((hs2.trans hs3).trans hs5).drewed hd6⟩
  · have hb : (1048576 : Int) < (zs.length : Int) := by omega
    go_enter Try.func3, Try.ntmps3
    go_wp2
    go_ret
    exact ⟨rfl, Same.refl _⟩
end Go.Proofs.Ytegcfjnjgklchaa
