/-
  FnExactAccept: for every bank and all numbers the program's Accept and the reference's hand back the same bank, in memory of its own, and the argument is left as it was. No condition.
-/
import Derived.Test.YtccgbilgfnoheaaAcceptI
import Derived.Test.YtccgbilgfnoheaaOnly
import Derived.Deep.Cut
import Derived.Deep.CutRange
namespace Go.Proofs.Ytccgbilgfnoheaa
open Go.RowKit
set_option linter.unusedVariables false

set_option maxRecDepth 10000 in
set_option maxHeartbeats 8000000 in
theorem lawAccept (Ab0 : Option Addr) (cb0 : Nat) (b0 : List Int) (Ab1 : Option Addr) (cb1 : Nat) (b1 : List Int) (k : Int) (x : Int) (w : World) (hzb0 : b0.length ≤ 9223372036854775807) (hAb0 : IntsAt w Ab0 b0) (hwb0 : Wide b0) (hzb1 : b1.length ≤ 9223372036854775807) (hAb1 : IntsAt w Ab1 b1) (hwb1 : Wide b1) (_ : (Lit.int .i64 k).wf = true) (_ : (Lit.int .i64 x).wf = true) :
    Calls Try.prog 8 #[.agg #[.slice Ab0 b0.length cb0, .slice Ab1 b1.length cb1], .int .i64 k, .int .i64 x] w fun e w' => e = .returned (.bool true) ∧ Same w w' := by
  by_cases hl0 : (b0.length : Int) + (b1.length : Int) ≤ 1048576
  · obtain ⟨K0, hK0⟩ : ∃ K0, K0 = accK b0 b1 k x := ⟨_, rfl⟩
    have hlK0 : K0.length ≤ 1100000 := by rw [hK0]; exact (by have := accK_len b0 b1 k x; omega)
    have hzK0 : K0.length ≤ 9223372036854775807 := by omega
    have HK0 := Lib.hid hK0
    clear hK0
    obtain ⟨C0, hC0⟩ : ∃ C0, C0 = accC b0 b1 k x := ⟨_, rfl⟩
    have hlC0 : C0.length ≤ 1100000 := by rw [hC0]; exact (by have := accC_len b0 b1 k x; omega)
    have hzC0 : C0.length ≤ 9223372036854775807 := by omega
    have HC0 := Lib.hid hC0
    clear hC0
    obtain ⟨x1, hx1⟩ : ∃ x1, x1 = accOk b0 b1 k x := ⟨_, rfl⟩
    have HX1 := Lib.hid hx1
    clear hx1
    have hb1_ : (x1 != x1) = false := by simp
    go_enter Try.func8, Try.ntmps8
    go_wp2_with fail
    have hab : BoxAt (w.alloc (.cells #[.slice Ab0 b0.length cb0, .slice Ab1 b1.length cb1] 42)) (w.heap.size) 42 [.slice Ab0 b0.length cb0, .slice Ab1 b1.length cb1] := by simpa using (BoxAt.new w 42 [.slice Ab0 b0.length cb0, .slice Ab1 b1.length cb1])
    have hs0 := (Same.alloc (Same.refl w) (.cells #[.slice Ab0 b0.length cb0, .slice Ab1 b1.length cb1] 42))
    have m0 : w.heap.size + 1 ≤ (w.alloc (.cells #[.slice Ab0 b0.length cb0, .slice Ab1 b1.length cb1] 42)).heap.size := by simp
    generalize (w.alloc (.cells #[.slice Ab0 b0.length cb0, .slice Ab1 b1.length cb1] 42)) = w0 at *
    have n0 := Same.size hs0
    have S0 : Same w w0 := Same.trans (Same.refl w) hs0
    clear hs0
    refine (szBank_any Ab0 b0.length cb0 Ab1 b1.length cb1 1048576 _ hzb0 hzb1 (by omega) (by omega)).mono ?_
    rintro e w1 ⟨rfl, hs1⟩
    replace hab := BoxAt.same hab hs1
    have n1 := Same.size hs1
    have S1 : Same w w1 := Same.trans S0 hs1
    clear hs1 S0
    rw [if_pos hl0]
    have hlb0 : b0.length ≤ 1048576 := by omega
    have hlb1 : b1.length ≤ 1048576 := by omega
    have hab_0 := hab.cell 0 rfl
    have hab_1 := hab.cell 1 rfl
    go_wp2_with fail
    refine (toBank_any Ab0 cb0 b0 Ab1 cb1 b1 _ hlb0 (hAb0.same S1) hlb1 (hAb1.same S1)).mono ?_
    rintro e w2 ⟨Bb02, eb02, Bb12, eb12, rfl, hq2b0, hq2b1, sp2, hs2⟩
    clear hab_0 hab_1
    have zhq2b0 := Zn.of hq2b0
    have zhq2b1 := Zn.of hq2b1
    replace hab := BoxAt.same hab hs2
    have n2 := Same.size hs2
    have S2 : Same w w2 := Same.trans S1 hs2
    clear hs2 S1
    have hab_0 := hab.cell 0 rfl
    have hab_1 := hab.cell 1 rfl
    go_wp2_with fail
    refine ((show Calls _ _ _ _ (RetBankX _ (accK b0 b1 k x) (accC b0 b1 k x) (.bool (accOk b0 b1 k x))) from sAccept_any _ _ b0 _ _ b1 k x _ (by omega) (OwnI.nil_cap hq2b0) (OwnI.cap hq2b0) (OwnI.ints hq2b0) (by omega) (OwnI.nil_cap hq2b1) (OwnI.ints hq2b1))).mono ?_
    rw [← HK0.out, ← HC0.out, ← HX1.out]
    rintro e w3 ⟨Aw_K0, cw_K0, Aw_C0, cw_C0, rfl, w_K0, w_C0, spw_K0_C0, hs3⟩
    clear hab_0 hab_1
    have zw_K0 := Zn.of w_K0
    have zw_C0 := Zn.of w_C0
    replace hab := BoxAt.same hab hs3
    replace hq2b0 := OwnI.same hq2b0 hs3
    replace hq2b1 := OwnI.same hq2b1 hs3
    have n3 := Same.size hs3
    have S3 : Same w w3 := Same.trans S2 hs3
    clear hs3 S2
    clear hq2b0 zhq2b0
    clear hq2b1 zhq2b1
    have hw0 : BoxAt (w3.alloc (.cells #[.slice Aw_K0 K0.length cw_K0, .slice Aw_C0 C0.length cw_C0] 29)) (w3.heap.size) 29 [.slice Aw_K0 K0.length cw_K0, .slice Aw_C0 C0.length cw_C0] := by simpa using (BoxAt.new w3 29 [.slice Aw_K0 K0.length cw_K0, .slice Aw_C0 C0.length cw_C0])
    have hs4 := (Same.alloc (Same.refl w3) (.cells #[.slice Aw_K0 K0.length cw_K0, .slice Aw_C0 C0.length cw_C0] 29))
    have m4 : w3.heap.size + 1 ≤ (w3.alloc (.cells #[.slice Aw_K0 K0.length cw_K0, .slice Aw_C0 C0.length cw_C0] 29)).heap.size := by simp
    replace hab := BoxAt.same hab hs4
    replace w_K0 := OwnI.same w_K0 hs4
    replace w_C0 := OwnI.same w_C0 hs4
    have hab_0 := hab.cell 0 rfl
    have hab_1 := hab.cell 1 rfl
    have hw0_0 := hw0.cell 0 rfl
    have hw0_1 := hw0.cell 1 rfl
    go_wp2_with fail
    generalize (w3.alloc (.cells #[.slice Aw_K0 K0.length cw_K0, .slice Aw_C0 C0.length cw_C0] 29)) = w4 at *
    have n4 := Same.size hs4
    have S4 : Same w w4 := Same.trans S3 hs4
    clear hs4 S3
    refine (toBank_any Ab0 cb0 b0 Ab1 cb1 b1 _ hlb0 (hAb0.same S4) hlb1 (hAb1.same S4)).mono ?_
    rintro e w5 ⟨Bb05, eb05, Bb15, eb15, rfl, hxb0, hxb1, sp5, hs5⟩
    clear hab_0 hab_1 hw0_0 hw0_1
    have zhxb0 := Zn.of hxb0
    have zhxb1 := Zn.of hxb1
    replace hab := BoxAt.same hab hs5
    replace w_K0 := OwnI.same w_K0 hs5
    replace w_C0 := OwnI.same w_C0 hs5
    replace hw0 := BoxAt.same hw0 hs5
    have n5 := Same.size hs5
    have S5 : Same w w5 := Same.trans S4 hs5
    clear hs5 S4
    have hxb : BoxAt (w5.alloc (.cells #[.slice Bb05 b0.length eb05, .slice Bb15 b1.length eb15] 29)) (w5.heap.size) 29 [.slice Bb05 b0.length eb05, .slice Bb15 b1.length eb15] := by simpa using (BoxAt.new w5 29 [.slice Bb05 b0.length eb05, .slice Bb15 b1.length eb15])
    have hs6 := (Same.alloc (Same.refl w5) (.cells #[.slice Bb05 b0.length eb05, .slice Bb15 b1.length eb15] 29))
    have m6 : w5.heap.size + 1 ≤ (w5.alloc (.cells #[.slice Bb05 b0.length eb05, .slice Bb15 b1.length eb15] 29)).heap.size := by simp
    replace hab := BoxAt.same hab hs6
    replace w_K0 := OwnI.same w_K0 hs6
    replace w_C0 := OwnI.same w_C0 hs6
    replace hw0 := BoxAt.same hw0 hs6
    replace hxb0 := OwnI.same hxb0 hs6
    replace hxb1 := OwnI.same hxb1 hs6
    have hab_0 := hab.cell 0 rfl
    have hab_1 := hab.cell 1 rfl
    have hw0_0 := hw0.cell 0 rfl
    have hw0_1 := hw0.cell 1 rfl
    have hxb_0 := hxb.cell 0 rfl
    have hxb_1 := hxb.cell 1 rfl
    go_wp2_with fail
    generalize (w5.alloc (.cells #[.slice Bb05 b0.length eb05, .slice Bb15 b1.length eb15] 29)) = w6 at *
    have n6 := Same.size hs6
    have S6 : Same w w6 := Same.trans S5 hs6
    clear hs6 S5
    refine ((show Calls _ _ _ _ (RetBankX _ (accK b0 b1 k x) (accC b0 b1 k x) (.bool (accOk b0 b1 k x))) from iAccept_any _ _ b0 _ _ b1 k x _ (by omega) hwb0 (by intro y hy; simp at hy; subst hy; assumption) (OwnI.ints hxb0) (by omega) (OwnI.ints hxb1))).mono ?_
    rw [← HK0.out, ← HC0.out, ← HX1.out]
    rintro e w7 ⟨Ag_K0, cg_K0, Ag_C0, cg_C0, rfl, g_K0, g_C0, spg_K0_C0, hs7⟩
    clear hab_0 hab_1 hw0_0 hw0_1 hxb_0 hxb_1
    have zg_K0 := Zn.of g_K0
    have zg_C0 := Zn.of g_C0
    replace hab := BoxAt.same hab hs7
    replace w_K0 := OwnI.same w_K0 hs7
    replace w_C0 := OwnI.same w_C0 hs7
    replace hw0 := BoxAt.same hw0 hs7
    replace hxb0 := OwnI.same hxb0 hs7
    replace hxb1 := OwnI.same hxb1 hs7
    replace hxb := BoxAt.same hxb hs7
    have n7 := Same.size hs7
    have S7 : Same w w7 := Same.trans S6 hs7
    clear hs7 S6
    have hg0 : BoxAt (w7.alloc (.cells #[.slice Ag_K0 K0.length cg_K0, .slice Ag_C0 C0.length cg_C0] 29)) (w7.heap.size) 29 [.slice Ag_K0 K0.length cg_K0, .slice Ag_C0 C0.length cg_C0] := by simpa using (BoxAt.new w7 29 [.slice Ag_K0 K0.length cg_K0, .slice Ag_C0 C0.length cg_C0])
    have hs8 := (Same.alloc (Same.refl w7) (.cells #[.slice Ag_K0 K0.length cg_K0, .slice Ag_C0 C0.length cg_C0] 29))
    have m8 : w7.heap.size + 1 ≤ (w7.alloc (.cells #[.slice Ag_K0 K0.length cg_K0, .slice Ag_C0 C0.length cg_C0] 29)).heap.size := by simp
    replace hab := BoxAt.same hab hs8
    replace w_K0 := OwnI.same w_K0 hs8
    replace w_C0 := OwnI.same w_C0 hs8
    replace hw0 := BoxAt.same hw0 hs8
    replace hxb0 := OwnI.same hxb0 hs8
    replace hxb1 := OwnI.same hxb1 hs8
    replace hxb := BoxAt.same hxb hs8
    replace g_K0 := OwnI.same g_K0 hs8
    replace g_C0 := OwnI.same g_C0 hs8
    have hab_0 := hab.cell 0 rfl
    have hab_1 := hab.cell 1 rfl
    have hw0_0 := hw0.cell 0 rfl
    have hw0_1 := hw0.cell 1 rfl
    have hxb_0 := hxb.cell 0 rfl
    have hxb_1 := hxb.cell 1 rfl
    have hg0_0 := hg0.cell 0 rfl
    have hg0_1 := hg0.cell 1 rfl
    go_wp2_with fail
    generalize (w7.alloc (.cells #[.slice Ag_K0 K0.length cg_K0, .slice Ag_C0 C0.length cg_C0] 29)) = w8 at *
    have n8 := Same.size hs8
    have S8 : Same w w8 := Same.trans S7 hs8
    clear hs8 S7
    refine (eqBank_any _ _ _ _ K0 K0 _ _ _ _ C0 C0 _ hzK0 hzK0 (OwnI.ints g_K0) (OwnI.ints w_K0) hzC0 hzC0 (OwnI.ints g_C0) (OwnI.ints w_C0)).mono ?_
    rintro e w9 ⟨rfl, hs9⟩
    clear hab_0 hab_1 hw0_0 hw0_1 hxb_0 hxb_1 hg0_0 hg0_1
    replace hab := BoxAt.same hab hs9
    replace w_K0 := OwnI.same w_K0 hs9
    replace w_C0 := OwnI.same w_C0 hs9
    replace hw0 := BoxAt.same hw0 hs9
    replace hxb0 := OwnI.same hxb0 hs9
    replace hxb1 := OwnI.same hxb1 hs9
    replace hxb := BoxAt.same hxb hs9
    replace g_K0 := OwnI.same g_K0 hs9
    replace g_C0 := OwnI.same g_C0 hs9
    replace hg0 := BoxAt.same hg0 hs9
    have n9 := Same.size hs9
    have S9 : Same w w9 := Same.trans S8 hs9
    clear hs9 S8
    rw [show (decide (K0 = K0) && decide (C0 = C0)) = true by simp]
    have hab_0 := hab.cell 0 rfl
    have hab_1 := hab.cell 1 rfl
    have hxb_0 := hxb.cell 0 rfl
    have hxb_1 := hxb.cell 1 rfl
    go_wp2_with fail
    go_region_held3 (fun w' => w'.cell? ⟨(w5.heap.size), 0, none⟩ = some (.slice Bb05 b0.length eb05) ∧ w'.cell? ⟨(w5.heap.size), 1, none⟩ = some (.slice Bb15 b1.length eb15) ∧ w'.cell? ⟨(w.heap.size), 0, none⟩ = some (.slice Ab0 b0.length cb0) ∧ w'.cell? ⟨(w.heap.size), 1, none⟩ = some (.slice Ab1 b1.length cb1))
      (first | exact ⟨(BoxAt.same hxb (Same.refl w9)).cell 0 rfl, (BoxAt.same hxb (Same.refl w9)).cell 1 rfl, (BoxAt.same hab (Same.refl w9)).cell 0 rfl, (BoxAt.same hab (Same.refl w9)).cell 1 rfl⟩ | exact ⟨(BoxAt.same hxb (Same.refl w9).drew).cell 0 rfl, (BoxAt.same hxb (Same.refl w9).drew).cell 1 rfl, (BoxAt.same hab (Same.refl w9).drew).cell 0 rfl, (BoxAt.same hab (Same.refl w9).drew).cell 1 rfl⟩ | exact ⟨(BoxAt.same hxb (Same.trans (Same.refl w9).drew hsq1_0)).cell 0 rfl, (BoxAt.same hxb (Same.trans (Same.refl w9).drew hsq1_0)).cell 1 rfl, (BoxAt.same hab (Same.trans (Same.refl w9).drew hsq1_0)).cell 0 rfl, (BoxAt.same hab (Same.trans (Same.refl w9).drew hsq1_0)).cell 1 rfl⟩ | exact ⟨(BoxAt.same hxb (Same.trans (Same.trans (Same.refl w9).drew hsq1_0) hsq1_1)).cell 0 rfl, (BoxAt.same hxb (Same.trans (Same.trans (Same.refl w9).drew hsq1_0) hsq1_1)).cell 1 rfl, (BoxAt.same hab (Same.trans (Same.trans (Same.refl w9).drew hsq1_0) hsq1_1)).cell 0 rfl, (BoxAt.same hab (Same.trans (Same.trans (Same.refl w9).drew hsq1_0) hsq1_1)).cell 1 rfl⟩)
      (first | (go_at_call 27; refine (toBank_any Ab0 cb0 b0 Ab1 cb1 b1 _ hlb0 (hAb0.same (Same.trans S9 (Same.refl w9).drew)) hlb1 (hAb1.same (Same.trans S9 (Same.refl w9).drew))).mono ?_; rintro e wq1_0 ⟨Bb0q1_0, eb0q1_0, Bb1q1_0, eb1q1_0, rfl, hq1_b0, hq1_b1, spq1_0, hsq1_0⟩) | (go_at_call 28; refine (eqBank_any _ _ _ _ b0 b0 _ _ _ _ b1 b1  _ hzb0 hzb0 (OwnI.ints (OwnI.same hxb0 (Same.trans (Same.refl w9).drew hsq1_0))) (OwnI.ints hq1_b0) hzb1 hzb1 (OwnI.ints (OwnI.same hxb1 (Same.trans (Same.refl w9).drew hsq1_0))) (OwnI.ints hq1_b1)).mono ?_; rintro e w10 ⟨rfl, hsq1_1⟩; rw [show (decide (b0 = b0) && decide (b1 = b1)) = true by simp]))
    clear hab_0 hab_1 hxb_0 hxb_1
    have hs10 := (Same.trans (Same.trans (Same.refl w9).drew hsq1_0) hsq1_1)
    clear hsq1_0 hsq1_1 hq1_b0 hq1_b1 spq1_0
    replace hab := BoxAt.same hab hs10
    replace w_K0 := OwnI.same w_K0 hs10
    replace w_C0 := OwnI.same w_C0 hs10
    replace hw0 := BoxAt.same hw0 hs10
    replace hxb0 := OwnI.same hxb0 hs10
    replace hxb1 := OwnI.same hxb1 hs10
    replace hxb := BoxAt.same hxb hs10
    replace g_K0 := OwnI.same g_K0 hs10
    replace g_C0 := OwnI.same g_C0 hs10
    replace hg0 := BoxAt.same hg0 hs10
    have n10 := Same.size hs10
    have S10 : Same w w10 := Same.trans S9 hs10
    clear hs10 S9
    have hab_0 := hab.cell 0 rfl
    have hab_1 := hab.cell 1 rfl
    have hw0_0 := hw0.cell 0 rfl
    have hw0_1 := hw0.cell 1 rfl
    have hxb_0 := hxb.cell 0 rfl
    have hxb_1 := hxb.cell 1 rfl
    have hg0_0 := hg0.cell 0 rfl
    have hg0_1 := hg0.cell 1 rfl
    go_wp2_with fail
    refine (markBank_any _ _ _ b0 _ _ _ b1 1 _ _ _ rfl (by omega) rfl (by omega) (by omega) (by omega) hxb0 hxb1 sp5).mono ?_
    rintro e w11 ⟨rfl, hx9b0, hx9b1, hu11⟩
    clear hab_0 hab_1 hw0_0 hw0_1 hxb_0 hxb_1 hg0_0 hg0_1
    replace hab := Only2.box hu11 hab (Zn.box zhxb0 (by omega)) (Zn.box zhxb1 (by omega))
    replace w_K0 := Only2.owns hu11 w_K0 (Sep.symm (Sep.zn zw_K0 zhxb0 (by omega))) (Sep.symm (Sep.zn zw_K0 zhxb1 (by omega)))
    replace w_C0 := Only2.owns hu11 w_C0 (Sep.symm (Sep.zn zw_C0 zhxb0 (by omega))) (Sep.symm (Sep.zn zw_C0 zhxb1 (by omega)))
    replace hw0 := Only2.box hu11 hw0 (Zn.box zhxb0 (by omega)) (Zn.box zhxb1 (by omega))
    replace hxb := Only2.box hu11 hxb (Zn.box zhxb0 (by omega)) (Zn.box zhxb1 (by omega))
    replace g_K0 := Only2.owns hu11 g_K0 (Sep.zn zhxb0 zg_K0 (by omega)) (Sep.zn zhxb1 zg_K0 (by omega))
    replace g_C0 := Only2.owns hu11 g_C0 (Sep.zn zhxb0 zg_C0 (by omega)) (Sep.zn zhxb1 zg_C0 (by omega))
    replace hg0 := Only2.box hu11 hg0 (Zn.box zhxb0 (by omega)) (Zn.box zhxb1 (by omega))
    have n11 := hu11.size
    have S11 : Same w w11 := Only2.same S10 hu11 (Zn.lo zhxb0 (by omega)) (Zn.lo zhxb1 (by omega))
    clear hu11 S10 hxb0 hxb1
    clear hx9b0 zhxb0
    clear hx9b1 zhxb1
    clear hxb
    have hab_0 := hab.cell 0 rfl
    have hab_1 := hab.cell 1 rfl
    have hw0_0 := hw0.cell 0 rfl
    have hw0_1 := hw0.cell 1 rfl
    have hg0_0 := hg0.cell 0 rfl
    have hg0_1 := hg0.cell 1 rfl
    go_wp2_with fail
    refine (eqBank_any _ _ _ _ K0 K0 _ _ _ _ C0 C0 _ hzK0 hzK0 (OwnI.ints g_K0) (OwnI.ints w_K0) hzC0 hzC0 (OwnI.ints g_C0) (OwnI.ints w_C0)).mono ?_
    rintro e w12 ⟨rfl, hs12⟩
    clear hab_0 hab_1 hw0_0 hw0_1 hg0_0 hg0_1
    replace hab := BoxAt.same hab hs12
    replace w_K0 := OwnI.same w_K0 hs12
    replace w_C0 := OwnI.same w_C0 hs12
    replace hw0 := BoxAt.same hw0 hs12
    replace g_K0 := OwnI.same g_K0 hs12
    replace g_C0 := OwnI.same g_C0 hs12
    replace hg0 := BoxAt.same hg0 hs12
    have n12 := Same.size hs12
    have S12 : Same w w12 := Same.trans S11 hs12
    clear hs12 S11
    rw [show (decide (K0 = K0) && decide (C0 = C0)) = true by simp]
    have hab_0 := hab.cell 0 rfl
    have hab_1 := hab.cell 1 rfl
    have hw0_0 := hw0.cell 0 rfl
    have hw0_1 := hw0.cell 1 rfl
    have hg0_0 := hg0.cell 0 rfl
    have hg0_1 := hg0.cell 1 rfl
    go_wp2_with fail
    refine (markBank_any _ _ _ K0 _ _ _ C0 1 _ _ _ rfl (by omega) rfl (by omega) (by omega) (by omega) g_K0 g_C0 spg_K0_C0).mono ?_
    rintro e w13 ⟨rfl, g9_K0, g9_C0, hu13⟩
    clear hab_0 hab_1 hw0_0 hw0_1 hg0_0 hg0_1
    replace hab := Only2.box hu13 hab (Zn.box zg_K0 (by omega)) (Zn.box zg_C0 (by omega))
    replace w_K0 := Only2.owns hu13 w_K0 (Sep.symm (Sep.zn zw_K0 zg_K0 (by omega))) (Sep.symm (Sep.zn zw_K0 zg_C0 (by omega)))
    replace w_C0 := Only2.owns hu13 w_C0 (Sep.symm (Sep.zn zw_C0 zg_K0 (by omega))) (Sep.symm (Sep.zn zw_C0 zg_C0 (by omega)))
    replace hw0 := Only2.box hu13 hw0 (Zn.box zg_K0 (by omega)) (Zn.box zg_C0 (by omega))
    replace hg0 := Only2.box hu13 hg0 (Zn.box zg_K0 (by omega)) (Zn.box zg_C0 (by omega))
    have n13 := hu13.size
    have S13 : Same w w13 := Only2.same S12 hu13 (Zn.lo zg_K0 (by omega)) (Zn.lo zg_C0 (by omega))
    clear hu13 S12 g_K0 g_C0
    have hq : ((1 + (K0.length : Int) + (C0.length : Int)) != (1 + (K0.length : Int) + (C0.length : Int))) = false := by simp
    have hab_0 := hab.cell 0 rfl
    have hab_1 := hab.cell 1 rfl
    have hw0_0 := hw0.cell 0 rfl
    have hw0_1 := hw0.cell 1 rfl
    have hg0_0 := hg0.cell 0 rfl
    have hg0_1 := hg0.cell 1 rfl
    go_wp2_with fail
    refine (heldBank_any _ _ _ _ _ _ 1 _ (by omega) (by omega) (by omega) (by omega) (OwnI.ints g9_K0) (OwnI.ints g9_C0)).mono ?_
    rintro e w14 ⟨rfl, hs14⟩
    clear hab_0 hab_1 hw0_0 hw0_1 hg0_0 hg0_1
    replace hab := BoxAt.same hab hs14
    replace w_K0 := OwnI.same w_K0 hs14
    replace w_C0 := OwnI.same w_C0 hs14
    replace hw0 := BoxAt.same hw0 hs14
    replace g9_K0 := OwnI.same g9_K0 hs14
    replace g9_C0 := OwnI.same g9_C0 hs14
    replace hg0 := BoxAt.same hg0 hs14
    have n14 := Same.size hs14
    have S14 : Same w w14 := Same.trans S13 hs14
    clear hs14 S13
    have hab_0 := hab.cell 0 rfl
    have hab_1 := hab.cell 1 rfl
    have hw0_0 := hw0.cell 0 rfl
    have hw0_1 := hw0.cell 1 rfl
    have hg0_0 := hg0.cell 0 rfl
    have hg0_1 := hg0.cell 1 rfl
    go_wp2_with fail
    refine (toBank_any Ab0 cb0 b0 Ab1 cb1 b1 _ hlb0 (hAb0.same S14) hlb1 (hAb1.same S14)).mono ?_
    rintro e w15 ⟨Bb015, eb015, Bb115, eb115, rfl, hq15b0, hq15b1, sp15, hs15⟩
    clear hab_0 hab_1 hw0_0 hw0_1 hg0_0 hg0_1
    have zhq15b0 := Zn.of hq15b0
    have zhq15b1 := Zn.of hq15b1
    replace hab := BoxAt.same hab hs15
    replace w_K0 := OwnI.same w_K0 hs15
    replace w_C0 := OwnI.same w_C0 hs15
    replace hw0 := BoxAt.same hw0 hs15
    replace g9_K0 := OwnI.same g9_K0 hs15
    replace g9_C0 := OwnI.same g9_C0 hs15
    replace hg0 := BoxAt.same hg0 hs15
    have n15 := Same.size hs15
    have S15 : Same w w15 := Same.trans S14 hs15
    clear hs15 S14
    have hab_0 := hab.cell 0 rfl
    have hab_1 := hab.cell 1 rfl
    have hw0_0 := hw0.cell 0 rfl
    have hw0_1 := hw0.cell 1 rfl
    have hg0_0 := hg0.cell 0 rfl
    have hg0_1 := hg0.cell 1 rfl
    go_wp2_with fail
    refine ((show Calls _ _ _ _ (RetBankX _ (accK b0 b1 k x) (accC b0 b1 k x) (.bool (accOk b0 b1 k x))) from iAccept_any _ _ b0 _ _ b1 k x _ (by omega) hwb0 (by intro y hy; simp at hy; subst hy; assumption) (OwnI.ints hq15b0) (by omega) (OwnI.ints hq15b1))).mono ?_
    rw [← HK0.out, ← HC0.out, ← HX1.out]
    rintro e w16 ⟨Ah_K0, ch_K0, Ah_C0, ch_C0, rfl, h_K0, h_C0, sph_K0_C0, hs16⟩
    clear hab_0 hab_1 hw0_0 hw0_1 hg0_0 hg0_1
    have zh_K0 := Zn.of h_K0
    have zh_C0 := Zn.of h_C0
    replace hab := BoxAt.same hab hs16
    replace w_K0 := OwnI.same w_K0 hs16
    replace w_C0 := OwnI.same w_C0 hs16
    replace hw0 := BoxAt.same hw0 hs16
    replace g9_K0 := OwnI.same g9_K0 hs16
    replace g9_C0 := OwnI.same g9_C0 hs16
    replace hg0 := BoxAt.same hg0 hs16
    replace hq15b0 := OwnI.same hq15b0 hs16
    replace hq15b1 := OwnI.same hq15b1 hs16
    have n16 := Same.size hs16
    have S16 : Same w w16 := Same.trans S15 hs16
    clear hs16 S15
    clear hq15b0 zhq15b0
    clear hq15b1 zhq15b1
    have hh0 : BoxAt (w16.alloc (.cells #[.slice Ah_K0 K0.length ch_K0, .slice Ah_C0 C0.length ch_C0] 29)) (w16.heap.size) 29 [.slice Ah_K0 K0.length ch_K0, .slice Ah_C0 C0.length ch_C0] := by simpa using (BoxAt.new w16 29 [.slice Ah_K0 K0.length ch_K0, .slice Ah_C0 C0.length ch_C0])
    have hs17 := (Same.alloc (Same.refl w16) (.cells #[.slice Ah_K0 K0.length ch_K0, .slice Ah_C0 C0.length ch_C0] 29))
    have m17 : w16.heap.size + 1 ≤ (w16.alloc (.cells #[.slice Ah_K0 K0.length ch_K0, .slice Ah_C0 C0.length ch_C0] 29)).heap.size := by simp
    replace hab := BoxAt.same hab hs17
    replace w_K0 := OwnI.same w_K0 hs17
    replace w_C0 := OwnI.same w_C0 hs17
    replace hw0 := BoxAt.same hw0 hs17
    replace g9_K0 := OwnI.same g9_K0 hs17
    replace g9_C0 := OwnI.same g9_C0 hs17
    replace hg0 := BoxAt.same hg0 hs17
    replace h_K0 := OwnI.same h_K0 hs17
    replace h_C0 := OwnI.same h_C0 hs17
    have hab_0 := hab.cell 0 rfl
    have hab_1 := hab.cell 1 rfl
    have hw0_0 := hw0.cell 0 rfl
    have hw0_1 := hw0.cell 1 rfl
    have hg0_0 := hg0.cell 0 rfl
    have hg0_1 := hg0.cell 1 rfl
    have hh0_0 := hh0.cell 0 rfl
    have hh0_1 := hh0.cell 1 rfl
    go_wp2_with fail
    generalize (w16.alloc (.cells #[.slice Ah_K0 K0.length ch_K0, .slice Ah_C0 C0.length ch_C0] 29)) = w17 at *
    have n17 := Same.size hs17
    have S17 : Same w w17 := Same.trans S16 hs17
    clear hs17 S16
    refine (eqBank_any _ _ _ _ K0 K0 _ _ _ _ C0 C0 _ hzK0 hzK0 (OwnI.ints h_K0) (OwnI.ints w_K0) hzC0 hzC0 (OwnI.ints h_C0) (OwnI.ints w_C0)).mono ?_
    rintro e w18 ⟨rfl, hs18⟩
    clear hab_0 hab_1 hw0_0 hw0_1 hg0_0 hg0_1 hh0_0 hh0_1
    replace hab := BoxAt.same hab hs18
    replace w_K0 := OwnI.same w_K0 hs18
    replace w_C0 := OwnI.same w_C0 hs18
    replace hw0 := BoxAt.same hw0 hs18
    replace g9_K0 := OwnI.same g9_K0 hs18
    replace g9_C0 := OwnI.same g9_C0 hs18
    replace hg0 := BoxAt.same hg0 hs18
    replace h_K0 := OwnI.same h_K0 hs18
    replace h_C0 := OwnI.same h_C0 hs18
    replace hh0 := BoxAt.same hh0 hs18
    have n18 := Same.size hs18
    have S18 : Same w w18 := Same.trans S17 hs18
    clear hs18 S17
    rw [show (decide (K0 = K0) && decide (C0 = C0)) = true by simp]
    have hab_0 := hab.cell 0 rfl
    have hab_1 := hab.cell 1 rfl
    have hw0_0 := hw0.cell 0 rfl
    have hw0_1 := hw0.cell 1 rfl
    have hg0_0 := hg0.cell 0 rfl
    have hg0_1 := hg0.cell 1 rfl
    have hh0_0 := hh0.cell 0 rfl
    have hh0_1 := hh0.cell 1 rfl
    go_wp2_with fail
    refine (heldBank_any _ _ _ _ _ _ 1 _ (by omega) (by omega) (by omega) (by omega) (OwnI.ints g9_K0) (OwnI.ints g9_C0)).mono ?_
    rintro e w19 ⟨rfl, hs19⟩
    clear hab_0 hab_1 hw0_0 hw0_1 hg0_0 hg0_1 hh0_0 hh0_1
    replace hab := BoxAt.same hab hs19
    replace w_K0 := OwnI.same w_K0 hs19
    replace w_C0 := OwnI.same w_C0 hs19
    replace hw0 := BoxAt.same hw0 hs19
    replace g9_K0 := OwnI.same g9_K0 hs19
    replace g9_C0 := OwnI.same g9_C0 hs19
    replace hg0 := BoxAt.same hg0 hs19
    replace h_K0 := OwnI.same h_K0 hs19
    replace h_C0 := OwnI.same h_C0 hs19
    replace hh0 := BoxAt.same hh0 hs19
    have n19 := Same.size hs19
    have S19 : Same w w19 := Same.trans S18 hs19
    clear hs19 S18
    have hab_0 := hab.cell 0 rfl
    have hab_1 := hab.cell 1 rfl
    have hw0_0 := hw0.cell 0 rfl
    have hw0_1 := hw0.cell 1 rfl
    have hg0_0 := hg0.cell 0 rfl
    have hg0_1 := hg0.cell 1 rfl
    have hh0_0 := hh0.cell 0 rfl
    have hh0_1 := hh0.cell 1 rfl
    go_wp2_with fail
    go_ret
    exact ⟨rfl, S19⟩
  · go_enter Try.func8, Try.ntmps8
    go_wp2_with fail
    have hab : BoxAt (w.alloc (.cells #[.slice Ab0 b0.length cb0, .slice Ab1 b1.length cb1] 42)) (w.heap.size) 42 [.slice Ab0 b0.length cb0, .slice Ab1 b1.length cb1] := by simpa using (BoxAt.new w 42 [.slice Ab0 b0.length cb0, .slice Ab1 b1.length cb1])
    have hs0 := (Same.alloc (Same.refl w) (.cells #[.slice Ab0 b0.length cb0, .slice Ab1 b1.length cb1] 42))
    have m0 : w.heap.size + 1 ≤ (w.alloc (.cells #[.slice Ab0 b0.length cb0, .slice Ab1 b1.length cb1] 42)).heap.size := by simp
    generalize (w.alloc (.cells #[.slice Ab0 b0.length cb0, .slice Ab1 b1.length cb1] 42)) = w0 at *
    have n0 := Same.size hs0
    have S0 : Same w w0 := Same.trans (Same.refl w) hs0
    clear hs0
    refine (szBank_any Ab0 b0.length cb0 Ab1 b1.length cb1 1048576 _ hzb0 hzb1 (by omega) (by omega)).mono ?_
    rintro e w1 ⟨rfl, hs1⟩
    replace hab := BoxAt.same hab hs1
    have n1 := Same.size hs1
    have S1 : Same w w1 := Same.trans S0 hs1
    clear hs1 S0
    rw [if_neg (show ¬ (b0.length : Int) + (b1.length : Int) ≤ 1048576 by omega)]
    go_wp2
    go_ret
    exact ⟨rfl, S1⟩
end Go.Proofs.Ytccgbilgfnoheaa
