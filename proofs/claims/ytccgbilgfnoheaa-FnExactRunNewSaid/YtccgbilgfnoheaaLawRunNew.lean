/-
  FnExactRunNew: for every month and all lists the program's RunNew and the reference's hand back the same run, in memory of its own, and the arguments are left as they were. No condition.
-/
import Derived.Test.YtccgbilgfnoheaaRunNewS
import Derived.Test.YtccgbilgfnoheaaOnly
import Derived.Deep.Cut
import Derived.Deep.CutRange
namespace Go.Proofs.Ytccgbilgfnoheaa
open Go.RowKit
set_option linter.unusedVariables false

/-- A run and a flag handed back. -/
def RetRunB (w : World) (m : Int) (L : List TItem) (ok : Bool) (e : Ending) (w' : World) : Prop := ∃ A c, e = .returned (.tuple #[.agg #[.int .i64 m, .slice A L.length c], .bool ok]) ∧ OwnItem w' w.heap.size (.slice A L.length c) L ∧ Same w w'

set_option maxRecDepth 10000 in
set_option maxHeartbeats 8000000 in
theorem lawRunNew (m : Int) (Ap : Option Addr) (cp : Nat) (p : List Int) (Aq : Option Addr) (cq : Nat) (q : List Int) (w : World) (_ : (Lit.int .i64 m).wf = true) (hzp : p.length ≤ 9223372036854775807) (hAp : IntsAt w Ap p) (hzq : q.length ≤ 9223372036854775807) (hAq : IntsAt w Aq q) :
    Calls Try.prog 6 #[.int .i64 m, .slice Ap p.length cp, .slice Aq q.length cq] w fun e w' => e = .returned (.bool true) ∧ Same w w' := by
  by_cases hl0 : (p.length : Int) ≤ 1048576
  · by_cases hl1 : (q.length : Int) ≤ 1048576
    · obtain ⟨R0, hR0⟩ : ∃ R0, R0 = newL m p q := ⟨_, rfl⟩
      have hlR0 : R0.length ≤ 1100000 := by rw [hR0]; exact (by have := newL_len m p q; omega)
      have hzR0 : R0.length ≤ 9223372036854775807 := by omega
      have HR0 := Lib.hid hR0
      clear hR0
      obtain ⟨M0, hM0⟩ : ∃ M0, M0 = newM m p q := ⟨_, rfl⟩
      have HM0 := Lib.hid hM0
      clear hM0
      obtain ⟨x1, hx1⟩ : ∃ x1, x1 = newOk m p q := ⟨_, rfl⟩
      have HX1 := Lib.hid hx1
      clear hx1
      have hb1_ : (x1 != x1) = false := by simp
      go_enter Try.func6, Try.ntmps6
      have hlp : p.length ≤ 1048576 := by omega
      have hlq : q.length ≤ 1048576 := by omega
      go_wp2_with fail
      refine (toIntS_any Ap cp p _ hlp (hAp.same (Same.refl w))).mono ?_
      rintro e w0 ⟨rfl, hq0p, hs0⟩
      have zhq0p := Zn.of hq0p
      have n0 := Same.size hs0
      have S0 : Same w w0 := Same.trans (Same.refl w) hs0
      clear hs0
      go_wp2_with fail
      refine (toIntS_any Aq cq q _ hlq (hAq.same S0)).mono ?_
      rintro e w1 ⟨rfl, hq1q, hs1⟩
      have zhq1q := Zn.of hq1q
      replace hq0p := OwnI.same hq0p hs1
      have n1 := Same.size hs1
      have S1 : Same w w1 := Same.trans S0 hs1
      clear hs1 S0
      go_wp2_with fail
      refine ((show Calls _ _ _ _ (RetRunB _ (newM m p q) (newL m p q) (newOk m p q)) from sRunNew_any m _ _ p _ _ q _ (by omega) (OwnI.ints hq0p) (by omega) (OwnI.ints hq1q))).mono ?_
      rw [← HR0.out, ← HM0.out, ← HX1.out]
      rintro e w2 ⟨Aw_R0, cw_R0, rfl, w_R0, hs2⟩
      have zw_R0 := Zn.of w_R0
      replace hq0p := OwnI.same hq0p hs2
      replace hq1q := OwnI.same hq1q hs2
      have n2 := Same.size hs2
      have S2 : Same w w2 := Same.trans S1 hs2
      clear hs2 S1
      clear hq0p zhq0p
      clear hq1q zhq1q
      have hw0 : BoxAt (w2.alloc (.cells #[.int .i64 M0, .slice Aw_R0 R0.length cw_R0] 26)) (w2.heap.size) 26 [.int .i64 M0, .slice Aw_R0 R0.length cw_R0] := by simpa using (BoxAt.new w2 26 [.int .i64 M0, .slice Aw_R0 R0.length cw_R0])
      have hs3 := (Same.alloc (Same.refl w2) (.cells #[.int .i64 M0, .slice Aw_R0 R0.length cw_R0] 26))
      have m3 : w2.heap.size + 1 ≤ (w2.alloc (.cells #[.int .i64 M0, .slice Aw_R0 R0.length cw_R0] 26)).heap.size := by simp
      replace w_R0 := OwnR.same w_R0 hs3
      have hw0_0 := hw0.cell 0 rfl
      have hw0_1 := hw0.cell 1 rfl
      go_wp2_with fail
      generalize (w2.alloc (.cells #[.int .i64 M0, .slice Aw_R0 R0.length cw_R0] 26)) = w3 at *
      have n3 := Same.size hs3
      have S3 : Same w w3 := Same.trans S2 hs3
      clear hs3 S2
      refine (toIntS_any Ap cp p _ hlp (hAp.same S3)).mono ?_
      rintro e w4 ⟨rfl, hxp, hs4⟩
      clear hw0_0 hw0_1
      have zhxp := Zn.of hxp
      replace w_R0 := OwnR.same w_R0 hs4
      replace hw0 := BoxAt.same hw0 hs4
      have n4 := Same.size hs4
      have S4 : Same w w4 := Same.trans S3 hs4
      clear hs4 S3
      have hw0_0 := hw0.cell 0 rfl
      have hw0_1 := hw0.cell 1 rfl
      go_wp2_with fail
      refine (toIntS_any Aq cq q _ hlq (hAq.same S4)).mono ?_
      rintro e w5 ⟨rfl, hxq, hs5⟩
      clear hw0_0 hw0_1
      have zhxq := Zn.of hxq
      replace w_R0 := OwnR.same w_R0 hs5
      replace hw0 := BoxAt.same hw0 hs5
      replace hxp := OwnI.same hxp hs5
      have n5 := Same.size hs5
      have S5 : Same w w5 := Same.trans S4 hs5
      clear hs5 S4
      have hw0_0 := hw0.cell 0 rfl
      have hw0_1 := hw0.cell 1 rfl
      go_wp2_with fail
      refine ((show Calls _ _ _ _ (RetRunB _ (newM m p q) (newL m p q) (newOk m p q)) from iRunNew_any m _ _ p _ _ q _ (by omega) (OwnI.ints hxp) (by omega) (OwnI.ints hxq))).mono ?_
      rw [← HR0.out, ← HM0.out, ← HX1.out]
      rintro e w6 ⟨Ag_R0, cg_R0, rfl, g_R0, hs6⟩
      clear hw0_0 hw0_1
      have zg_R0 := Zn.of g_R0
      replace w_R0 := OwnR.same w_R0 hs6
      replace hw0 := BoxAt.same hw0 hs6
      replace hxp := OwnI.same hxp hs6
      replace hxq := OwnI.same hxq hs6
      have n6 := Same.size hs6
      have S6 : Same w w6 := Same.trans S5 hs6
      clear hs6 S5
      have hg0 : BoxAt (w6.alloc (.cells #[.int .i64 M0, .slice Ag_R0 R0.length cg_R0] 26)) (w6.heap.size) 26 [.int .i64 M0, .slice Ag_R0 R0.length cg_R0] := by simpa using (BoxAt.new w6 26 [.int .i64 M0, .slice Ag_R0 R0.length cg_R0])
      have hs7 := (Same.alloc (Same.refl w6) (.cells #[.int .i64 M0, .slice Ag_R0 R0.length cg_R0] 26))
      have m7 : w6.heap.size + 1 ≤ (w6.alloc (.cells #[.int .i64 M0, .slice Ag_R0 R0.length cg_R0] 26)).heap.size := by simp
      replace w_R0 := OwnR.same w_R0 hs7
      replace hw0 := BoxAt.same hw0 hs7
      replace hxp := OwnI.same hxp hs7
      replace hxq := OwnI.same hxq hs7
      replace g_R0 := OwnR.same g_R0 hs7
      have hw0_0 := hw0.cell 0 rfl
      have hw0_1 := hw0.cell 1 rfl
      have hg0_0 := hg0.cell 0 rfl
      have hg0_1 := hg0.cell 1 rfl
      go_wp2_with fail
      generalize (w6.alloc (.cells #[.int .i64 M0, .slice Ag_R0 R0.length cg_R0] 26)) = w7 at *
      have n7 := Same.size hs7
      have S7 : Same w w7 := Same.trans S6 hs7
      clear hs7 S6
      refine (eqRun_any _ _ _ _ R0 R0 M0 M0 _ hzR0 hzR0 (OwnR.recs cItem_len g_R0) (OwnR.recs cItem_len w_R0)).mono ?_
      rintro e w8 ⟨rfl, hs8⟩
      clear hw0_0 hw0_1 hg0_0 hg0_1
      replace w_R0 := OwnR.same w_R0 hs8
      replace hw0 := BoxAt.same hw0 hs8
      replace hxp := OwnI.same hxp hs8
      replace hxq := OwnI.same hxq hs8
      replace g_R0 := OwnR.same g_R0 hs8
      replace hg0 := BoxAt.same hg0 hs8
      have n8 := Same.size hs8
      have S8 : Same w w8 := Same.trans S7 hs8
      clear hs8 S7
      rw [show (decide (R0 = R0) && decide (M0 = M0)) = true by simp]
      have hw0_0 := hw0.cell 0 rfl
      have hw0_1 := hw0.cell 1 rfl
      have hg0_0 := hg0.cell 0 rfl
      have hg0_1 := hg0.cell 1 rfl
      go_wp2_with fail
      refine (toIntS_any Ap cp p _ hlp (hAp.same S8)).mono ?_
      rintro e w9 ⟨rfl, hyp, hs9⟩
      clear hw0_0 hw0_1 hg0_0 hg0_1
      have zhyp := Zn.of hyp
      replace w_R0 := OwnR.same w_R0 hs9
      replace hw0 := BoxAt.same hw0 hs9
      replace hxp := OwnI.same hxp hs9
      replace hxq := OwnI.same hxq hs9
      replace g_R0 := OwnR.same g_R0 hs9
      replace hg0 := BoxAt.same hg0 hs9
      have n9 := Same.size hs9
      have S9 : Same w w9 := Same.trans S8 hs9
      clear hs9 S8
      have hw0_0 := hw0.cell 0 rfl
      have hw0_1 := hw0.cell 1 rfl
      have hg0_0 := hg0.cell 0 rfl
      have hg0_1 := hg0.cell 1 rfl
      go_wp2_with fail
      refine (eqIntS_any _ _ _ _ p p _ hzp hzp (OwnI.ints hxp) (OwnI.ints hyp)).mono ?_
      rintro e w10 ⟨rfl, hd10⟩
      clear hw0_0 hw0_1 hg0_0 hg0_1
      have hs10 := Drew.same hd10
      clear hd10
      replace w_R0 := OwnR.same w_R0 hs10
      replace hw0 := BoxAt.same hw0 hs10
      replace hxp := OwnI.same hxp hs10
      replace hxq := OwnI.same hxq hs10
      replace g_R0 := OwnR.same g_R0 hs10
      replace hg0 := BoxAt.same hg0 hs10
      replace hyp := OwnI.same hyp hs10
      have n10 := Same.size hs10
      have S10 : Same w w10 := Same.trans S9 hs10
      clear hs10 S9
      rw [decide_eq_true rfl]
      clear hyp zhyp
      have hw0_0 := hw0.cell 0 rfl
      have hw0_1 := hw0.cell 1 rfl
      have hg0_0 := hg0.cell 0 rfl
      have hg0_1 := hg0.cell 1 rfl
      go_wp2_with fail
      refine (toIntS_any Aq cq q _ hlq (hAq.same S10)).mono ?_
      rintro e w11 ⟨rfl, hyq, hs11⟩
      clear hw0_0 hw0_1 hg0_0 hg0_1
      have zhyq := Zn.of hyq
      replace w_R0 := OwnR.same w_R0 hs11
      replace hw0 := BoxAt.same hw0 hs11
      replace hxp := OwnI.same hxp hs11
      replace hxq := OwnI.same hxq hs11
      replace g_R0 := OwnR.same g_R0 hs11
      replace hg0 := BoxAt.same hg0 hs11
      have n11 := Same.size hs11
      have S11 : Same w w11 := Same.trans S10 hs11
      clear hs11 S10
      have hw0_0 := hw0.cell 0 rfl
      have hw0_1 := hw0.cell 1 rfl
      have hg0_0 := hg0.cell 0 rfl
      have hg0_1 := hg0.cell 1 rfl
      go_wp2_with fail
      refine (eqIntS_any _ _ _ _ q q _ hzq hzq (OwnI.ints hxq) (OwnI.ints hyq)).mono ?_
      rintro e w12 ⟨rfl, hd12⟩
      clear hw0_0 hw0_1 hg0_0 hg0_1
      have hs12 := Drew.same hd12
      clear hd12
      replace w_R0 := OwnR.same w_R0 hs12
      replace hw0 := BoxAt.same hw0 hs12
      replace hxp := OwnI.same hxp hs12
      replace hxq := OwnI.same hxq hs12
      replace g_R0 := OwnR.same g_R0 hs12
      replace hg0 := BoxAt.same hg0 hs12
      replace hyq := OwnI.same hyq hs12
      have n12 := Same.size hs12
      have S12 : Same w w12 := Same.trans S11 hs12
      clear hs12 S11
      rw [decide_eq_true rfl]
      clear hyq zhyq
      have hw0_0 := hw0.cell 0 rfl
      have hw0_1 := hw0.cell 1 rfl
      have hg0_0 := hg0.cell 0 rfl
      have hg0_1 := hg0.cell 1 rfl
      go_wp2_with fail
      refine (markI_only _ _ _ p 1 _ _ rfl (by omega) (by omega) (by omega) hxp).mono ?_
      rintro e w13 ⟨⟨rfl, hx9p⟩, hu13⟩
      clear hw0_0 hw0_1 hg0_0 hg0_1
      replace w_R0 := Only1.owns hu13 w_R0 (Sep.symm (Sep.zn zw_R0 zhxp (by omega)))
      replace hw0 := Only1.box hu13 hw0 (Zn.box zhxp (by omega))
      replace hxq := Only1.owns hu13 hxq (Sep.zn zhxp zhxq (by omega))
      replace g_R0 := Only1.owns hu13 g_R0 (Sep.zn zhxp zg_R0 (by omega))
      replace hg0 := Only1.box hu13 hg0 (Zn.box zhxp (by omega))
      have n13 := hu13.size
      have S13 : Same w w13 := Only1.same S12 hu13 (Zn.lo zhxp (by omega))
      clear hu13 S12 hxp
      clear hx9p zhxp
      have hw0_0 := hw0.cell 0 rfl
      have hw0_1 := hw0.cell 1 rfl
      have hg0_0 := hg0.cell 0 rfl
      have hg0_1 := hg0.cell 1 rfl
      go_wp2_with fail
      refine (markI_only _ _ _ q (1 + (p.length : Int)) _ _ rfl (by omega) (by omega) (by omega) hxq).mono ?_
      rintro e w14 ⟨⟨rfl, hx9q⟩, hu14⟩
      clear hw0_0 hw0_1 hg0_0 hg0_1
      replace w_R0 := Only1.owns hu14 w_R0 (Sep.symm (Sep.zn zw_R0 zhxq (by omega)))
      replace hw0 := Only1.box hu14 hw0 (Zn.box zhxq (by omega))
      replace g_R0 := Only1.owns hu14 g_R0 (Sep.zn zhxq zg_R0 (by omega))
      replace hg0 := Only1.box hu14 hg0 (Zn.box zhxq (by omega))
      have n14 := hu14.size
      have S14 : Same w w14 := Only1.same S13 hu14 (Zn.lo zhxq (by omega))
      clear hu14 S13 hxq
      clear hx9q zhxq
      have hw0_0 := hw0.cell 0 rfl
      have hw0_1 := hw0.cell 1 rfl
      have hg0_0 := hg0.cell 0 rfl
      have hg0_1 := hg0.cell 1 rfl
      go_wp2_with fail
      refine (eqRun_any _ _ _ _ R0 R0 M0 M0 _ hzR0 hzR0 (OwnR.recs cItem_len g_R0) (OwnR.recs cItem_len w_R0)).mono ?_
      rintro e w15 ⟨rfl, hs15⟩
      clear hw0_0 hw0_1 hg0_0 hg0_1
      replace w_R0 := OwnR.same w_R0 hs15
      replace hw0 := BoxAt.same hw0 hs15
      replace g_R0 := OwnR.same g_R0 hs15
      replace hg0 := BoxAt.same hg0 hs15
      have n15 := Same.size hs15
      have S15 : Same w w15 := Same.trans S14 hs15
      clear hs15 S14
      rw [show (decide (R0 = R0) && decide (M0 = M0)) = true by simp]
      have hw0_0 := hw0.cell 0 rfl
      have hw0_1 := hw0.cell 1 rfl
      have hg0_0 := hg0.cell 0 rfl
      have hg0_1 := hg0.cell 1 rfl
      go_wp2_with fail
      refine (markRun_any M0 _ _ _ R0 1 _ _ rfl (by omega) (by omega) (by omega) g_R0).mono ?_
      rintro e w16 ⟨rfl, g9_R0, hu16⟩
      clear hw0_0 hw0_1 hg0_0 hg0_1
      replace w_R0 := Only1.owns hu16 w_R0 (Sep.symm (Sep.zn zw_R0 zg_R0 (by omega)))
      replace hw0 := Only1.box hu16 hw0 (Zn.box zg_R0 (by omega))
      replace hg0 := Only1.box hu16 hg0 (Zn.box zg_R0 (by omega))
      have n16 := hu16.size
      have S16 : Same w w16 := Only1.same S15 hu16 (Zn.lo zg_R0 (by omega))
      clear hu16 S15 g_R0
      have hq : ((1 + 3 * (R0.length : Int)) != (1 + 3 * (R0.length : Int))) = false := by simp
      have hw0_0 := hw0.cell 0 rfl
      have hw0_1 := hw0.cell 1 rfl
      have hg0_0 := hg0.cell 0 rfl
      have hg0_1 := hg0.cell 1 rfl
      go_wp2_with fail
      refine (heldRun_any M0 _ _ _ 1 _ (by omega) (by omega) (by omega) (OwnR.recs cItem_len g9_R0)).mono ?_
      rintro e w17 ⟨rfl, hs17⟩
      clear hw0_0 hw0_1 hg0_0 hg0_1
      replace w_R0 := OwnR.same w_R0 hs17
      replace hw0 := BoxAt.same hw0 hs17
      replace g9_R0 := OwnR.same g9_R0 hs17
      replace hg0 := BoxAt.same hg0 hs17
      have n17 := Same.size hs17
      have S17 : Same w w17 := Same.trans S16 hs17
      clear hs17 S16
      have hw0_0 := hw0.cell 0 rfl
      have hw0_1 := hw0.cell 1 rfl
      have hg0_0 := hg0.cell 0 rfl
      have hg0_1 := hg0.cell 1 rfl
      go_wp2_with fail
      refine (toIntS_any Ap cp p _ hlp (hAp.same S17)).mono ?_
      rintro e w18 ⟨rfl, hq18p, hs18⟩
      clear hw0_0 hw0_1 hg0_0 hg0_1
      have zhq18p := Zn.of hq18p
      replace w_R0 := OwnR.same w_R0 hs18
      replace hw0 := BoxAt.same hw0 hs18
      replace g9_R0 := OwnR.same g9_R0 hs18
      replace hg0 := BoxAt.same hg0 hs18
      have n18 := Same.size hs18
      have S18 : Same w w18 := Same.trans S17 hs18
      clear hs18 S17
      have hw0_0 := hw0.cell 0 rfl
      have hw0_1 := hw0.cell 1 rfl
      have hg0_0 := hg0.cell 0 rfl
      have hg0_1 := hg0.cell 1 rfl
      go_wp2_with fail
      refine (toIntS_any Aq cq q _ hlq (hAq.same S18)).mono ?_
      rintro e w19 ⟨rfl, hq19q, hs19⟩
      clear hw0_0 hw0_1 hg0_0 hg0_1
      have zhq19q := Zn.of hq19q
      replace w_R0 := OwnR.same w_R0 hs19
      replace hw0 := BoxAt.same hw0 hs19
      replace g9_R0 := OwnR.same g9_R0 hs19
      replace hg0 := BoxAt.same hg0 hs19
      replace hq18p := OwnI.same hq18p hs19
      have n19 := Same.size hs19
      have S19 : Same w w19 := Same.trans S18 hs19
      clear hs19 S18
      have hw0_0 := hw0.cell 0 rfl
      have hw0_1 := hw0.cell 1 rfl
      have hg0_0 := hg0.cell 0 rfl
      have hg0_1 := hg0.cell 1 rfl
      go_wp2_with fail
      refine ((show Calls _ _ _ _ (RetRunB _ (newM m p q) (newL m p q) (newOk m p q)) from iRunNew_any m _ _ p _ _ q _ (by omega) (OwnI.ints hq18p) (by omega) (OwnI.ints hq19q))).mono ?_
      rw [← HR0.out, ← HM0.out, ← HX1.out]
      rintro e w20 ⟨Ah_R0, ch_R0, rfl, h_R0, hs20⟩
      clear hw0_0 hw0_1 hg0_0 hg0_1
      have zh_R0 := Zn.of h_R0
      replace w_R0 := OwnR.same w_R0 hs20
      replace hw0 := BoxAt.same hw0 hs20
      replace g9_R0 := OwnR.same g9_R0 hs20
      replace hg0 := BoxAt.same hg0 hs20
      replace hq18p := OwnI.same hq18p hs20
      replace hq19q := OwnI.same hq19q hs20
      have n20 := Same.size hs20
      have S20 : Same w w20 := Same.trans S19 hs20
      clear hs20 S19
      clear hq18p zhq18p
      clear hq19q zhq19q
      have hh0 : BoxAt (w20.alloc (.cells #[.int .i64 M0, .slice Ah_R0 R0.length ch_R0] 26)) (w20.heap.size) 26 [.int .i64 M0, .slice Ah_R0 R0.length ch_R0] := by simpa using (BoxAt.new w20 26 [.int .i64 M0, .slice Ah_R0 R0.length ch_R0])
      have hs21 := (Same.alloc (Same.refl w20) (.cells #[.int .i64 M0, .slice Ah_R0 R0.length ch_R0] 26))
      have m21 : w20.heap.size + 1 ≤ (w20.alloc (.cells #[.int .i64 M0, .slice Ah_R0 R0.length ch_R0] 26)).heap.size := by simp
      replace w_R0 := OwnR.same w_R0 hs21
      replace hw0 := BoxAt.same hw0 hs21
      replace g9_R0 := OwnR.same g9_R0 hs21
      replace hg0 := BoxAt.same hg0 hs21
      replace h_R0 := OwnR.same h_R0 hs21
      have hw0_0 := hw0.cell 0 rfl
      have hw0_1 := hw0.cell 1 rfl
      have hg0_0 := hg0.cell 0 rfl
      have hg0_1 := hg0.cell 1 rfl
      have hh0_0 := hh0.cell 0 rfl
      have hh0_1 := hh0.cell 1 rfl
      go_wp2_with fail
      generalize (w20.alloc (.cells #[.int .i64 M0, .slice Ah_R0 R0.length ch_R0] 26)) = w21 at *
      have n21 := Same.size hs21
      have S21 : Same w w21 := Same.trans S20 hs21
      clear hs21 S20
      refine (eqRun_any _ _ _ _ R0 R0 M0 M0 _ hzR0 hzR0 (OwnR.recs cItem_len h_R0) (OwnR.recs cItem_len w_R0)).mono ?_
      rintro e w22 ⟨rfl, hs22⟩
      clear hw0_0 hw0_1 hg0_0 hg0_1 hh0_0 hh0_1
      replace w_R0 := OwnR.same w_R0 hs22
      replace hw0 := BoxAt.same hw0 hs22
      replace g9_R0 := OwnR.same g9_R0 hs22
      replace hg0 := BoxAt.same hg0 hs22
      replace h_R0 := OwnR.same h_R0 hs22
      replace hh0 := BoxAt.same hh0 hs22
      have n22 := Same.size hs22
      have S22 : Same w w22 := Same.trans S21 hs22
      clear hs22 S21
      rw [show (decide (R0 = R0) && decide (M0 = M0)) = true by simp]
      have hw0_0 := hw0.cell 0 rfl
      have hw0_1 := hw0.cell 1 rfl
      have hg0_0 := hg0.cell 0 rfl
      have hg0_1 := hg0.cell 1 rfl
      have hh0_0 := hh0.cell 0 rfl
      have hh0_1 := hh0.cell 1 rfl
      go_wp2_with fail
      refine (heldRun_any M0 _ _ _ 1 _ (by omega) (by omega) (by omega) (OwnR.recs cItem_len g9_R0)).mono ?_
      rintro e w23 ⟨rfl, hs23⟩
      clear hw0_0 hw0_1 hg0_0 hg0_1 hh0_0 hh0_1
      replace w_R0 := OwnR.same w_R0 hs23
      replace hw0 := BoxAt.same hw0 hs23
      replace g9_R0 := OwnR.same g9_R0 hs23
      replace hg0 := BoxAt.same hg0 hs23
      replace h_R0 := OwnR.same h_R0 hs23
      replace hh0 := BoxAt.same hh0 hs23
      have n23 := Same.size hs23
      have S23 : Same w w23 := Same.trans S22 hs23
      clear hs23 S22
      have hw0_0 := hw0.cell 0 rfl
      have hw0_1 := hw0.cell 1 rfl
      have hg0_0 := hg0.cell 0 rfl
      have hg0_1 := hg0.cell 1 rfl
      have hh0_0 := hh0.cell 0 rfl
      have hh0_1 := hh0.cell 1 rfl
      go_wp2_with fail
      go_ret
      exact ⟨rfl, S23⟩
    · go_enter Try.func6, Try.ntmps6
      go_wp2
      go_ret
      exact ⟨rfl, Same.refl _⟩
  · go_enter Try.func6, Try.ntmps6
    go_wp2
    go_ret
    exact ⟨rfl, Same.refl _⟩
end Go.Proofs.Ytccgbilgfnoheaa
