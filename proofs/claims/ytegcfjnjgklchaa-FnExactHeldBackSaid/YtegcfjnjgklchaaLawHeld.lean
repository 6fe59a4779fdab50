/-
  FnExactHeldBack: for every list of integers and all numbers the program's HeldBack and the reference's answer alike, and the list is left as it was. No condition.
-/
import Derived.Test.YtegcfjnjgklchaaHeld
namespace Go.Proofs.Ytegcfjnjgklchaa
open Go.RowKit

set_option maxHeartbeats 400000 in
theorem lawHeld (A : Option Addr) (c : Nat) (zs : List Int) (s : Int) (m : Int) (l : Int) (w : World) (hz : zs.length ≤ 9223372036854775807) (hA : IntsAt w A zs) (_ : (Lit.int .i64 s).wf = true) (_ : (Lit.int .i64 m).wf = true) (_ : (Lit.int .i64 l).wf = true) :
    Calls Try.prog 12 #[.slice A zs.length c, .int .i64 s, .int .i64 m, .int .i64 l] w fun e w' => e = .returned (.bool true) ∧ Same w w' := by
  by_cases hl : zs.length ≤ 1048576
  · have hE := Lib.hid (show (heldBack zs s m l != heldBack zs s m l) = false by simp)
    go_enter Try.func12, Try.ntmps12
    go_wp2_with fail
    refine (toIntS_any A c zs _ hl hA).mono ?_
    rintro e w1 ⟨rfl, ho1, hs1⟩
    go_wp2_with fail
    refine (sHeld_any _ _ zs s m l _ hz ho1.ints).mono ?_
    rintro e w2 ⟨rfl, hd2⟩
    have hs2 : Same w _ := (hs1).trans hd2
    go_wp2_with fail
    refine (toIntS_any A c zs _ hl (hA.same hs2)).mono ?_
    rintro e w3 ⟨rfl, ho3, hs3⟩
    go_wp2_with fail
    refine (iHeld_any _ _ zs s m l _ hz ho3.ints).mono ?_
    rintro e w4 ⟨rfl, hd4⟩
    have hs4 : Same w _ := (hs2.trans hs3).trans hd4
    have hx4 := ho3.ints.same hd4
    go_wp2_with fail
    refine (toIntS_any A c zs _ hl (hA.same hs4)).mono ?_
    rintro e w5 ⟨rfl, ho5, hs5⟩
    go_wp2_with fail
    refine (eqIntS_any _ _ _ _ zs zs _ hz hz (hx4.same hs5) ho5.ints).mono ?_
    rintro e w6 ⟨rfl, hd6⟩
    go_wp2_with fail
    go_ret
    exact ⟨rfl, (hs4.trans hs5).drewed hd6⟩
  · have hb : (1048576 : Int) < (zs.length : Int) := by omega
    go_enter Try.func12, Try.ntmps12
    go_wp2
    go_ret
    exact ⟨rfl, Same.refl _⟩
end Go.Proofs.Ytegcfjnjgklchaa
