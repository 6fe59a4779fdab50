/-
  FnExactWaived, FnExactRecoveredBy, FnExactRecoveryPlan, FnExactNetAmounts: for every debt, list of amounts and percentage the program's answers are the reference's, what is handed back lies in memory of its own, and the list that came in is left as it was. No condition.
-/
import Derived.Test.YtmpeohmhkhhooaaRecov2
import Derived.Test.YtmpeohmhkhhooaaNet
namespace Go.Proofs.Ytmpeohmhkhhooaa
open Go.RowKit

set_option maxHeartbeats 400000 in
theorem lawWaived (debt : Int) (A : Option Addr) (c : Nat) (zs : List Int) (pct : Int) (w : World) (_ : (Lit.int .i64 debt).wf = true) (hz : zs.length ≤ 9223372036854775807) (hA : IntsAt w A zs) (_ : (Lit.int .i64 pct).wf = true) :
    Calls Try.prog 5 #[.int .i64 debt, .slice A zs.length c, .int .i64 pct] w fun e w' => e = .returned (.bool true) ∧ Same w w' := by
  by_cases hl : zs.length ≤ 1048576
  · have hE := Lib.hid (show (waived debt zs pct != waived debt zs pct) = false by simp)
    go_enter Try.func5, Try.ntmps5
    go_wp2_with fail
    refine (toIntS_any A c zs _ hl hA).mono ?_
    rintro e w1 ⟨rfl, ho1, hs1⟩
    go_wp2_with fail
    refine (sWaived_any debt _ _ zs pct _ hz ho1.ints).mono ?_
    rintro e w2 ⟨rfl, hd2⟩
    have hs2 : Same w _ := (hs1).trans hd2
    go_wp2_with fail
    refine (toIntS_any A c zs _ hl (hA.same hs2)).mono ?_
    rintro e w3 ⟨rfl, ho3, hs3⟩
    go_wp2_with fail
    refine (iWaived_any debt _ _ zs pct _ hz ho3.ints).mono ?_
    rintro e w4 ⟨rfl, hd4⟩
    have hs4 : Same w _ := (hs2.trans hs3).trans hd4
    have hx4 := ho3.ints.same hd4
    go_wp2_with fail
    refine (toIntS_any A c zs _ hl (hA.same hs4)).mono ?_
    rintro e w5 ⟨rfl, ho5, hs5⟩
    go_wp2_with fail
    refine (eqIntS_any _ _ _ _ zs zs _ hz hz (hx4.same hs5) ho5.ints).mono ?_
    rintro e w6 ⟨rfl, hd6⟩
    go_wp2_with fail
    go_ret
    exact ⟨rfl, (hs4.trans hs5).drewed hd6⟩
  · have hb : (1048576 : Int) < (zs.length : Int) := by omega
    go_enter Try.func5, Try.ntmps5
    go_wp2
    go_ret
    exact ⟨rfl, Same.refl _⟩

set_option maxHeartbeats 400000 in
theorem lawRecoveredBy (debt : Int) (A : Option Addr) (c : Nat) (zs : List Int) (pct : Int) (w : World) (_ : (Lit.int .i64 debt).wf = true) (hz : zs.length ≤ 9223372036854775807) (hA : IntsAt w A zs) (_ : (Lit.int .i64 pct).wf = true) :
    Calls Try.prog 6 #[.int .i64 debt, .slice A zs.length c, .int .i64 pct] w fun e w' => e = .returned (.bool true) ∧ Same w w' := by
  by_cases hl : zs.length ≤ 1048576
  · have hE := Lib.hid (show (recoveredBy debt zs pct != recoveredBy debt zs pct) = false by simp)
    go_enter Try.func6, Try.ntmps6
    go_wp2_with fail
    refine (toIntS_any A c zs _ hl hA).mono ?_
    rintro e w1 ⟨rfl, ho1, hs1⟩
    go_wp2_with fail
    refine (sRecoveredBy_any debt _ _ zs pct _ hz ho1.ints).mono ?_
    rintro e w2 ⟨rfl, hd2⟩
    have hs2 : Same w _ := (hs1).trans hd2
    go_wp2_with fail
    refine (toIntS_any A c zs _ hl (hA.same hs2)).mono ?_
    rintro e w3 ⟨rfl, ho3, hs3⟩
    go_wp2_with fail
    refine (iRecoveredBy_any debt _ _ zs pct _ hz ho3.ints).mono ?_
    rintro e w4 ⟨rfl, hd4⟩
    have hs4 : Same w _ := (hs2.trans hs3).trans hd4
    have hx4 := ho3.ints.same hd4
    go_wp2_with fail
    refine (toIntS_any A c zs _ hl (hA.same hs4)).mono ?_
    rintro e w5 ⟨rfl, ho5, hs5⟩
    go_wp2_with fail
    refine (eqIntS_any _ _ _ _ zs zs _ hz hz (hx4.same hs5) ho5.ints).mono ?_
    rintro e w6 ⟨rfl, hd6⟩
    go_wp2_with fail
    go_ret
    exact ⟨rfl, (hs4.trans hs5).drewed hd6⟩
  · have hb : (1048576 : Int) < (zs.length : Int) := by omega
    go_enter Try.func6, Try.ntmps6
    go_wp2
    go_ret
    exact ⟨rfl, Same.refl _⟩

set_option maxHeartbeats 2000000 in
theorem lawRecoveryPlan (debt : Int) (AL : Option Addr) (cL : Nat) (L : List Int) (pct : Int) (w : World) (_ : (Lit.int .i64 debt).wf = true) (hzL : L.length ≤ 9223372036854775807) (hAL : IntsAt w AL L) (_ : (Lit.int .i64 pct).wf = true) :
    Calls Try.prog 4 #[.int .i64 debt, .slice AL L.length cL, .int .i64 pct] w fun e w' => e = .returned (.bool true) ∧ Same w w' := by
  by_cases hlL : L.length ≤ 1048576
  · obtain ⟨P, hP⟩ : ∃ P, P = plan debt L pct := ⟨_, rfl⟩
    have hlP : P.length ≤ 600000 := by rw [hP]; exact plan_len debt L pct
    have hzP : P.length ≤ 9223372036854775807 := by omega
    have HP := Lib.hid hP
    clear hP
    go_enter Try.func4, Try.ntmps4
    go_wp2_with fail
    refine (toIntS_any AL cL L _ hlL (hAL.same (Same.refl w))).mono ?_
    rintro e w1 ⟨rfl, ho0, hs1⟩
    have zho0 := Zn.of ho0
    have n1 := hs1.size
    have S1 : Same w w1 := (Same.refl w).trans hs1
    clear hs1
    go_wp2_with fail
    refine (sPlan_any debt _ _ L pct _ hzL (OwnI.ints ho0)).mono ?_
    rw [← HP.out]
    rintro e w2 ⟨A2_, c2_, rfl, hw, hs2⟩
    have zhw := Zn.of hw
    replace ho0 := OwnI.same ho0 hs2
    have n2 := hs2.size
    have S2 : Same w w2 := S1.trans hs2
    clear hs2 S1
    clear ho0 zho0
    go_wp2_with fail
    refine (toIntS_any AL cL L _ hlL (hAL.same S2)).mono ?_
    rintro e w3 ⟨rfl, hx, hs3⟩
    have zhx := Zn.of hx
    replace hw := OwnI.same hw hs3
    have n3 := hs3.size
    have S3 : Same w w3 := S2.trans hs3
    clear hs3 S2
    go_wp2_with fail
    refine (iPlan_any debt _ _ L pct _ hzL (OwnI.ints hx)).mono ?_
    rw [← HP.out]
    rintro e w4 ⟨A4_, c4_, rfl, hg, hs4⟩
    have zhg := Zn.of hg
    replace hw := OwnI.same hw hs4
    replace hx := OwnI.same hx hs4
    have n4 := hs4.size
    have S4 : Same w w4 := S3.trans hs4
    clear hs4 S3
    go_wp2_with fail
    refine (eqIntS_any _ _ _ _ P P _ hzP hzP (OwnI.ints hg) (OwnI.ints hw)).mono ?_
    rintro e w5 ⟨rfl, hs5⟩
    replace hw := OwnI.drew hw hs5
    replace hx := OwnI.drew hx hs5
    replace hg := OwnI.drew hg hs5
    have n5 := hs5.same.size
    have S5 : Same w w5 := S4.drewed hs5
    clear hs5 S4
    go_wp2_with fail
    refine (toIntS_any AL cL L _ hlL (hAL.same S5)).mono ?_
    rintro e w6 ⟨rfl, ho1, hs6⟩
    have zho1 := Zn.of ho1
    replace hw := OwnI.same hw hs6
    replace hx := OwnI.same hx hs6
    replace hg := OwnI.same hg hs6
    have n6 := hs6.size
    have S6 : Same w w6 := S5.trans hs6
    clear hs6 S5
    go_wp2_with fail
    refine (eqIntS_any _ _ _ _ L L _ hzL hzL (OwnI.ints hx) (OwnI.ints ho1)).mono ?_
    rintro e w7 ⟨rfl, hs7⟩
    replace hw := OwnI.drew hw hs7
    replace hx := OwnI.drew hx hs7
    replace hg := OwnI.drew hg hs7
    replace ho1 := OwnI.drew ho1 hs7
    have n7 := hs7.same.size
    have S7 : Same w w7 := S6.drewed hs7
    clear hs7 S6
    clear ho1 zho1
    go_wp2_with fail
    refine (markIntS_any _ _ _ L 1 _ _ rfl (by omega) (by omega) (by omega) hx zhx).mono ?_
    rintro e w8 ⟨rfl, hx9, hu8⟩
    replace hw := OwnI.upd hw hu8 zhw (.inl (by omega))
    replace hg := OwnI.upd hg hu8 zhg (.inr (by omega))
    have n8 := hu8.size
    have S8 : Same w w8 := S7.upds hu8 (by omega)
    clear hu8 S7 hx
    have zhx9 := zhx
    clear zhx
    clear hx9 zhx9
    go_wp2_with fail
    refine (eqIntS_any _ _ _ _ P P _ hzP hzP (OwnI.ints hg) (OwnI.ints hw)).mono ?_
    rintro e w9 ⟨rfl, hs9⟩
    replace hw := OwnI.drew hw hs9
    replace hg := OwnI.drew hg hs9
    have n9 := hs9.same.size
    have S9 : Same w w9 := S8.drewed hs9
    clear hs9 S8
    go_wp2_with fail
    refine (markIntS_any _ _ _ P 1 _ _ rfl (by omega) (by omega) (by omega) hg zhg).mono ?_
    rintro e w10 ⟨rfl, hg9, hu10⟩
    replace hw := OwnI.upd hw hu10 zhw (.inl (by omega))
    have n10 := hu10.size
    have S10 : Same w w10 := S9.upds hu10 (by omega)
    clear hu10 S9 hg
    have zhg9 := zhg
    clear zhg
    go_wp2_with fail
    refine (heldIntS_any _ _ _ 1 _ (by omega) (by omega) (by omega) (OwnI.ints hg9)).mono ?_
    rintro e w11 ⟨rfl, rfl⟩
    have hq : ((1 + (P.length : Int)) != (1 + (P.length : Int))) = false := by simp
    go_wp2_with fail
    refine (toIntS_any AL cL L _ hlL (hAL.same S10)).mono ?_
    rintro e w11 ⟨rfl, ho2, hs11⟩
    have zho2 := Zn.of ho2
    replace hw := OwnI.same hw hs11
    replace hg9 := OwnI.same hg9 hs11
    have n11 := hs11.size
    have S11 : Same w w11 := S10.trans hs11
    clear hs11 S10
    go_wp2_with fail
    refine (iPlan_any debt _ _ L pct _ hzL (OwnI.ints ho2)).mono ?_
    rw [← HP.out]
    rintro e w12 ⟨A12_, c12_, rfl, hh, hs12⟩
    have zhh := Zn.of hh
    replace hw := OwnI.same hw hs12
    replace hg9 := OwnI.same hg9 hs12
    replace ho2 := OwnI.same ho2 hs12
    have n12 := hs12.size
    have S12 : Same w w12 := S11.trans hs12
    clear hs12 S11
    clear ho2 zho2
    go_wp2_with fail
    refine (eqIntS_any _ _ _ _ P P _ hzP hzP (OwnI.ints hh) (OwnI.ints hw)).mono ?_
    rintro e w13 ⟨rfl, hs13⟩
    replace hw := OwnI.drew hw hs13
    replace hg9 := OwnI.drew hg9 hs13
    replace hh := OwnI.drew hh hs13
    have n13 := hs13.same.size
    have S13 : Same w w13 := S12.drewed hs13
    clear hs13 S12
    clear hh zhh
    clear hw zhw
    go_wp2_with fail
    refine (heldIntS_any _ _ _ 1 _ (by omega) (by omega) (by omega) (OwnI.ints hg9)).mono ?_
    rintro e w14 ⟨rfl, rfl⟩
    go_wp2_with fail
    go_ret
    exact ⟨rfl, S13⟩
  · have hb : (1048576 : Int) < (L.length : Int) := by omega
    go_enter Try.func4, Try.ntmps4
    go_wp2
    go_ret
    exact ⟨rfl, Same.refl _⟩

set_option maxHeartbeats 2000000 in
theorem lawNetAmounts (debt : Int) (AL : Option Addr) (cL : Nat) (L : List Int) (pct : Int) (w : World) (_ : (Lit.int .i64 debt).wf = true) (hzL : L.length ≤ 9223372036854775807) (hAL : IntsAt w AL L) (_ : (Lit.int .i64 pct).wf = true) :
    Calls Try.prog 7 #[.int .i64 debt, .slice AL L.length cL, .int .i64 pct] w fun e w' => e = .returned (.bool true) ∧ Same w w' := by
  by_cases hlL : L.length ≤ 1048576
  · obtain ⟨P, hP⟩ : ∃ P, P = netAmounts debt L pct := ⟨_, rfl⟩
    have hlP : P.length ≤ 600000 := by rw [hP]; exact netAmounts_len debt L pct
    have hzP : P.length ≤ 9223372036854775807 := by omega
    have HP := Lib.hid hP
    clear hP
    go_enter Try.func7, Try.ntmps7
    go_wp2_with fail
    refine (toIntS_any AL cL L _ hlL (hAL.same (Same.refl w))).mono ?_
    rintro e w1 ⟨rfl, ho0, hs1⟩
    have zho0 := Zn.of ho0
    have n1 := hs1.size
    have S1 : Same w w1 := (Same.refl w).trans hs1
    clear hs1
    go_wp2_with fail
    refine (sNetAmounts_any debt _ _ L pct _ hzL (OwnI.ints ho0)).mono ?_
    rw [← HP.out]
    rintro e w2 ⟨A2_, c2_, rfl, hw, hs2⟩
    have zhw := Zn.of hw
    replace ho0 := OwnI.same ho0 hs2
    have n2 := hs2.size
    have S2 : Same w w2 := S1.trans hs2
    clear hs2 S1
    clear ho0 zho0
    go_wp2_with fail
    refine (toIntS_any AL cL L _ hlL (hAL.same S2)).mono ?_
    rintro e w3 ⟨rfl, hx, hs3⟩
    have zhx := Zn.of hx
    replace hw := OwnI.same hw hs3
    have n3 := hs3.size
    have S3 : Same w w3 := S2.trans hs3
    clear hs3 S2
    go_wp2_with fail
    refine (iNetAmounts_any debt _ _ L pct _ hzL (OwnI.ints hx)).mono ?_
    rw [← HP.out]
    rintro e w4 ⟨A4_, c4_, rfl, hg, hs4⟩
    have zhg := Zn.of hg
    replace hw := OwnI.same hw hs4
    replace hx := OwnI.same hx hs4
    have n4 := hs4.size
    have S4 : Same w w4 := S3.trans hs4
    clear hs4 S3
    go_wp2_with fail
    refine (eqIntS_any _ _ _ _ P P _ hzP hzP (OwnI.ints hg) (OwnI.ints hw)).mono ?_
    rintro e w5 ⟨rfl, hs5⟩
    replace hw := OwnI.drew hw hs5
    replace hx := OwnI.drew hx hs5
    replace hg := OwnI.drew hg hs5
    have n5 := hs5.same.size
    have S5 : Same w w5 := S4.drewed hs5
    clear hs5 S4
    go_wp2_with fail
    refine (toIntS_any AL cL L _ hlL (hAL.same S5)).mono ?_
    rintro e w6 ⟨rfl, ho1, hs6⟩
    have zho1 := Zn.of ho1
    replace hw := OwnI.same hw hs6
    replace hx := OwnI.same hx hs6
    replace hg := OwnI.same hg hs6
    have n6 := hs6.size
    have S6 : Same w w6 := S5.trans hs6
    clear hs6 S5
    go_wp2_with fail
    refine (eqIntS_any _ _ _ _ L L _ hzL hzL (OwnI.ints hx) (OwnI.ints ho1)).mono ?_
    rintro e w7 ⟨rfl, hs7⟩
    replace hw := OwnI.drew hw hs7
    replace hx := OwnI.drew hx hs7
    replace hg := OwnI.drew hg hs7
    replace ho1 := OwnI.drew ho1 hs7
    have n7 := hs7.same.size
    have S7 : Same w w7 := S6.drewed hs7
    clear hs7 S6
    clear ho1 zho1
    go_wp2_with fail
    refine (markIntS_any _ _ _ L 1 _ _ rfl (by omega) (by omega) (by omega) hx zhx).mono ?_
    rintro e w8 ⟨rfl, hx9, hu8⟩
    replace hw := OwnI.upd hw hu8 zhw (.inl (by omega))
    replace hg := OwnI.upd hg hu8 zhg (.inr (by omega))
    have n8 := hu8.size
    have S8 : Same w w8 := S7.upds hu8 (by omega)
    clear hu8 S7 hx
    have zhx9 := zhx
    clear zhx
    clear hx9 zhx9
    go_wp2_with fail
    refine (eqIntS_any _ _ _ _ P P _ hzP hzP (OwnI.ints hg) (OwnI.ints hw)).mono ?_
    rintro e w9 ⟨rfl, hs9⟩
    replace hw := OwnI.drew hw hs9
    replace hg := OwnI.drew hg hs9
    have n9 := hs9.same.size
    have S9 : Same w w9 := S8.drewed hs9
    clear hs9 S8
    go_wp2_with fail
    refine (markIntS_any _ _ _ P 1 _ _ rfl (by omega) (by omega) (by omega) hg zhg).mono ?_
    rintro e w10 ⟨rfl, hg9, hu10⟩
    replace hw := OwnI.upd hw hu10 zhw (.inl (by omega))
    have n10 := hu10.size
    have S10 : Same w w10 := S9.upds hu10 (by omega)
    clear hu10 S9 hg
    have zhg9 := zhg
    clear zhg
    go_wp2_with fail
    refine (heldIntS_any _ _ _ 1 _ (by omega) (by omega) (by omega) (OwnI.ints hg9)).mono ?_
    rintro e w11 ⟨rfl, rfl⟩
    have hq : ((1 + (P.length : Int)) != (1 + (P.length : Int))) = false := by simp
    go_wp2_with fail
    refine (toIntS_any AL cL L _ hlL (hAL.same S10)).mono ?_
    rintro e w11 ⟨rfl, ho2, hs11⟩
    have zho2 := Zn.of ho2
    replace hw := OwnI.same hw hs11
    replace hg9 := OwnI.same hg9 hs11
    have n11 := hs11.size
    have S11 : Same w w11 := S10.trans hs11
    clear hs11 S10
    go_wp2_with fail
    refine (iNetAmounts_any debt _ _ L pct _ hzL (OwnI.ints ho2)).mono ?_
    rw [← HP.out]
    rintro e w12 ⟨A12_, c12_, rfl, hh, hs12⟩
    have zhh := Zn.of hh
    replace hw := OwnI.same hw hs12
    replace hg9 := OwnI.same hg9 hs12
    replace ho2 := OwnI.same ho2 hs12
    have n12 := hs12.size
    have S12 : Same w w12 := S11.trans hs12
    clear hs12 S11
    clear ho2 zho2
    go_wp2_with fail
    refine (eqIntS_any _ _ _ _ P P _ hzP hzP (OwnI.ints hh) (OwnI.ints hw)).mono ?_
    rintro e w13 ⟨rfl, hs13⟩
    replace hw := OwnI.drew hw hs13
    replace hg9 := OwnI.drew hg9 hs13
    replace hh := OwnI.drew hh hs13
    have n13 := hs13.same.size
    have S13 : Same w w13 := S12.drewed hs13
    clear hs13 S12
    clear hh zhh
    clear hw zhw
    go_wp2_with fail
    refine (heldIntS_any _ _ _ 1 _ (by omega) (by omega) (by omega) (OwnI.ints hg9)).mono ?_
    rintro e w14 ⟨rfl, rfl⟩
    go_wp2_with fail
    go_ret
    exact ⟨rfl, S13⟩
  · have hb : (1048576 : Int) < (L.length : Int) := by omega
    go_enter Try.func7, Try.ntmps7
    go_wp2
    go_ret
    exact ⟨rfl, Same.refl _⟩
end Go.Proofs.Ytmpeohmhkhhooaa
