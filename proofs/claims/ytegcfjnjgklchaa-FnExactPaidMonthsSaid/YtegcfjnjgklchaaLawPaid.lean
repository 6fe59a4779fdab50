/-
  FnExactPaidMonths: for every list of integers and all numbers the program's PaidMonths and the reference's hand back the same list, in memory of its own, and the list that came in is left as it was. No condition.
-/
import Derived.Test.YtegcfjnjgklchaaPaid
namespace Go.Proofs.Ytegcfjnjgklchaa
open Go.RowKit

set_option maxHeartbeats 1000000 in
theorem lawPaid (A : Option Addr) (c : Nat) (zs : List Int) (s m l : Int) (w : World) (hz : zs.length ≤ 9223372036854775807) (hA : IntsAt w A zs) (_ : (Lit.int .i64 s).wf = true) (_ : (Lit.int .i64 m).wf = true) (_ : (Lit.int .i64 l).wf = true) :
    Calls Try.prog 13 #[.slice A zs.length c, .int .i64 s, .int .i64 m, .int .i64 l] w fun e w' => e = .returned (.bool true) ∧ Same w w' := by
  by_cases hl : zs.length ≤ 1048576
  · obtain ⟨P, hP⟩ : ∃ P, P = paidL zs s m l := ⟨_, rfl⟩
    have hPl : P.length ≤ 600 := by rw [hP]; exact paidL_length
    have hPz : P.length ≤ 9223372036854775807 := by omega
    have HP := Lib.hid hP
    clear hP
    go_enter Try.func13, Try.ntmps13
    go_wp2_with fail
    refine (toIntS_any A c zs _ hl hA).mono ?_
    rintro e w1 ⟨rfl, ho1, hs1⟩
    go_wp2_with fail
    refine (sPaid_any _ _ zs s m l _ hz ho1.ints).mono ?_
    rw [← HP.out]
    rintro e w2 ⟨W0, c0, rfl, hw0, hs2⟩
    go_wp2_with fail
    refine (toIntS_any A c zs _ hl (hA.same (hs1.trans hs2))).mono ?_
    rintro e w3 ⟨rfl, hx0, hs3⟩
    go_wp2_with fail
    refine (iPaid_any _ _ zs s m l _ hz hx0.ints).mono ?_
    rw [← HP.out]
    rintro e w4 ⟨G0, d0, rfl, hg0, hs4⟩
    have zw0 := hw0.zn
    have zx0 := hx0.zn
    have zg0 := hg0.zn
    replace hw0 := (hw0.same hs3).same hs4
    replace hx0 := hx0.same hs4
    have n1 := hs1.size
    have n2 := hs2.size
    have n3 := hs3.size
    have n4 := hs4.size
    have S4 : Same w w4 := ((hs1.trans hs2).trans hs3).trans hs4
    clear hs1 hs2 hs3 hs4 ho1
    go_wp2_with fail
    refine (eqIntS_any _ _ _ _ P P _ hPz hPz hg0.ints hw0.ints).mono ?_
    rintro e w5 ⟨rfl, hd5⟩
    replace hw0 := hw0.drew hd5
    replace hx0 := hx0.drew hd5
    replace hg0 := hg0.drew hd5
    have S5 : Same w w5 := S4.drewed hd5
    have n5 := hd5.same.size
    clear hd5 S4
    go_wp2_with fail
    refine (toIntS_any A c zs _ hl (hA.same S5)).mono ?_
    rintro e w6 ⟨rfl, ho6, hs6⟩
    replace hw0 := hw0.same hs6
    replace hx0 := hx0.same hs6
    replace hg0 := hg0.same hs6
    have n6 := hs6.size
    have S6 : Same w w6 := S5.trans hs6
    clear hs6 S5
    go_wp2_with fail
    refine (eqIntS_any _ _ _ _ zs zs _ hz hz hx0.ints ho6.ints).mono ?_
    rintro e w7 ⟨rfl, hd7⟩
    replace hw0 := hw0.drew hd7
    replace hx0 := hx0.drew hd7
    replace hg0 := hg0.drew hd7
    have S7 : Same w w7 := S6.drewed hd7
    have n7 := hd7.same.size
    clear hd7 S6 ho6
    go_wp2_with fail
    refine (markIntS_any _ _ _ zs 1 _ _ rfl (by omega) (by omega) (by omega) hx0 zx0).mono ?_
    rintro e w8 ⟨rfl, hx8, hu8⟩
    replace hw0 := hw0.upd hu8 zw0 (.inl (Nat.le_refl _))
    replace hg0 := hg0.upd hu8 zg0 (.inr (Nat.le_refl _))
    have S8 : Same w w8 := S7.upds hu8 (by omega)
    have n8 := hu8.size
    clear hu8 S7 hx0 hx8
    go_wp2_with fail
    refine (eqIntS_any _ _ _ _ P P _ hPz hPz hg0.ints hw0.ints).mono ?_
    rintro e w9 ⟨rfl, hd9⟩
    replace hw0 := hw0.drew hd9
    replace hg0 := hg0.drew hd9
    have S9 : Same w w9 := S8.drewed hd9
    have n9 := hd9.same.size
    clear hd9 S8
    go_wp2_with fail
    refine (markIntS_any _ _ _ P 1 _ _ rfl (by omega) (by omega) (by omega) hg0 zg0).mono ?_
    rintro e w10 ⟨rfl, hg10, hu10⟩
    replace hw0 := hw0.upd hu10 zw0 (.inl (by omega))
    have S10 : Same w w10 := S9.upds hu10 (by omega)
    have n10 := hu10.size
    clear hu10 S9 hg0
    go_wp2_with fail
    refine (heldIntS_any _ _ _ 1 _ (by omega) (by omega) (by omega) hg10.ints).mono ?_
    rintro e w11 ⟨rfl, rfl⟩
    have hq : ((1 + (P.length : Int)) != (1 + (P.length : Int))) = false := by simp
    go_wp2_with fail
    refine (toIntS_any A c zs _ hl (hA.same S10)).mono ?_
    rintro e w12 ⟨rfl, ho12, hs12⟩
    replace hw0 := hw0.same hs12
    replace hg10 := OwnI.same hg10 hs12
    have n12 := hs12.size
    have S12 : Same w w12 := S10.trans hs12
    clear hs12 S10
    go_wp2_with fail
    refine (iPaid_any _ _ zs s m l _ hz ho12.ints).mono ?_
    rw [← HP.out]
    rintro e w13 ⟨H0, f0, rfl, hh0, hs13⟩
    replace hw0 := hw0.same hs13
    replace hg10 := OwnI.same hg10 hs13
    have S13 : Same w w13 := S12.trans hs13
    clear hs13 S12 ho12
    go_wp2_with fail
    refine (eqIntS_any _ _ _ _ P P _ hPz hPz hh0.ints hw0.ints).mono ?_
    rintro e w14 ⟨rfl, hd14⟩
    replace hg10 := OwnI.drew hg10 hd14
    have S14 : Same w w14 := S13.drewed hd14
    clear hd14 S13 hh0 hw0
    go_wp2_with fail
    refine (heldIntS_any _ _ _ 1 _ (by omega) (by omega) (by omega) hg10.ints).mono ?_
    rintro e w15 ⟨rfl, rfl⟩
    go_wp2_with fail
    go_ret
    exact ⟨rfl, S14⟩
  · have hb : (1048576 : Int) < (zs.length : Int) := by omega
    go_enter Try.func13, Try.ntmps13
    go_wp2
    go_ret
    exact ⟨rfl, Same.refl _⟩
end Go.Proofs.Ytegcfjnjgklchaa
