/-
  FnExactAfterReturns: for every bank and list of keys the program's AfterReturns and the reference's hand back the same bank and sum, in memory of their own, and the arguments are left as they were. No condition.
-/
import Derived.Test.YtccgbilgfnoheaaAfterS
import Derived.Test.YtccgbilgfnoheaaOnly
import Derived.Deep.Cut
import Derived.Deep.CutRange
namespace Go.Proofs.Ytccgbilgfnoheaa
open Go.RowKit
set_option linter.unusedVariables false

set_option maxRecDepth 10000 in
set_option maxHeartbeats 8000000 in
theorem lawAfterReturns (Ab0 : Option Addr) (cb0 : Nat) (b0 : List Int) (Ab1 : Option Addr) (cb1 : Nat) (b1 : List Int) (Az : Option Addr) (cz : Nat) (z : List Int) (w : World) (hzb0 : b0.length ≤ 9223372036854775807) (hAb0 : IntsAt w Ab0 b0) (hwb0 : Wide b0) (hzb1 : b1.length ≤ 9223372036854775807) (hAb1 : IntsAt w Ab1 b1) (hwb1 : Wide b1) (hzz : z.length ≤ 9223372036854775807) (hAz : IntsAt w Az z) :
    Calls Try.prog 9 #[.agg #[.slice Ab0 b0.length cb0, .slice Ab1 b1.length cb1], .slice Az z.length cz] w fun e w' => e = .returned (.bool true) ∧ Same w w' := by
  by_cases hl0 : (z.length : Int) ≤ 1048576
  · by_cases hl1 : (b0.length : Int) + (b1.length : Int) ≤ 1048576
    · obtain ⟨K0, hK0⟩ : ∃ K0, K0 = aftRK b0 b1 z := ⟨_, rfl⟩
      have hlK0 : K0.length ≤ 1100000 := by rw [hK0]; exact (by have := aftRK_len b0 b1 z; omega)
      have hzK0 : K0.length ≤ 9223372036854775807 := by omega
      have HK0 := Lib.hid hK0
      clear hK0
      obtain ⟨C0, hC0⟩ : ∃ C0, C0 = aftRC b0 b1 z := ⟨_, rfl⟩
      have hlC0 : C0.length ≤ 1100000 := by rw [hC0]; exact (by have := aftRC_len b0 b1 z; omega)
      have hzC0 : C0.length ≤ 9223372036854775807 := by omega
      have HC0 := Lib.hid hC0
      clear hC0
      obtain ⟨x1, hx1⟩ : ∃ x1, x1 = aftRS b0 b1 z := ⟨_, rfl⟩
      have HX1 := Lib.hid hx1
      clear hx1
      have hb1_ : (x1 != x1) = false := by simp
      go_enter Try.func9, Try.ntmps9
      go_wp2_with fail
      have hab : BoxAt (w.alloc (.cells #[.slice Ab0 b0.length cb0, .slice Ab1 b1.length cb1] 42)) (w.heap.size) 42 [.slice Ab0 b0.length cb0, .slice Ab1 b1.length cb1] := by simpa using (BoxAt.new w 42 [.slice Ab0 b0.length cb0, .slice Ab1 b1.length cb1])
      have hs0 := (Same.alloc (Same.refl w) (.cells #[.slice Ab0 b0.length cb0, .slice Ab1 b1.length cb1] 42))
      have m0 : w.heap.size + 1 ≤ (w.alloc (.cells #[.slice Ab0 b0.length cb0, .slice Ab1 b1.length cb1] 42)).heap.size := by simp
      generalize (w.alloc (.cells #[.slice Ab0 b0.length cb0, .slice Ab1 b1.length cb1] 42)) = w0 at *
      have n0 := Same.size hs0
      have S0 : Same w w0 := Same.trans (Same.refl w) hs0
      clear hs0
      refine (szBank_any Ab0 b0.length cb0 Ab1 b1.length cb1 1048576 _ hzb0 hzb1 (by omega) (by omega)).mono ?_
      rintro e w1 ⟨rfl, hs1⟩
      replace hab := BoxAt.same hab hs1
      have n1 := Same.size hs1
      have S1 : Same w w1 := Same.trans S0 hs1
      clear hs1 S0
      rw [if_pos hl1]
      have hlb0 : b0.length ≤ 1048576 := by omega
      have hlb1 : b1.length ≤ 1048576 := by omega
      have hlz : z.length ≤ 1048576 := by omega
      have hab_0 := hab.cell 0 rfl
      have hab_1 := hab.cell 1 rfl
      go_wp2_with fail
      refine (toBank_any Ab0 cb0 b0 Ab1 cb1 b1 _ hlb0 (hAb0.same S1) hlb1 (hAb1.same S1)).mono ?_
      rintro e w2 ⟨Bb02, eb02, Bb12, eb12, rfl, hq2b0, hq2b1, sp2, hs2⟩
      clear hab_0 hab_1
      have zhq2b0 := Zn.of hq2b0
      have zhq2b1 := Zn.of hq2b1
      replace hab := BoxAt.same hab hs2
      have n2 := Same.size hs2
      have S2 : Same w w2 := Same.trans S1 hs2
      clear hs2 S1
      have hab_0 := hab.cell 0 rfl
      have hab_1 := hab.cell 1 rfl
      go_wp2_with fail
      refine (toIntS_any Az cz z _ hlz (hAz.same S2)).mono ?_
      rintro e w3 ⟨rfl, hq3z, hs3⟩
      clear hab_0 hab_1
      have zhq3z := Zn.of hq3z
      replace hab := BoxAt.same hab hs3
      replace hq2b0 := OwnI.same hq2b0 hs3
      replace hq2b1 := OwnI.same hq2b1 hs3
      have n3 := Same.size hs3
      have S3 : Same w w3 := Same.trans S2 hs3
      clear hs3 S2
      have hab_0 := hab.cell 0 rfl
      have hab_1 := hab.cell 1 rfl
      go_wp2_with fail
      refine ((show Calls _ _ _ _ (RetBankX _ (aftRK b0 b1 z) (aftRC b0 b1 z) (.int .i64 (aftRS b0 b1 z))) from sAfter_any _ _ b0 _ _ b1 _ _ z _ (by omega) (OwnI.nil_cap hq2b0) (OwnI.cap hq2b0) (OwnI.ints hq2b0) (by omega) (OwnI.nil_cap hq2b1) (OwnI.ints hq2b1) (by omega) (OwnI.ints hq3z))).mono ?_
      rw [← HK0.out, ← HC0.out, ← HX1.out]
      rintro e w4 ⟨Aw_K0, cw_K0, Aw_C0, cw_C0, rfl, w_K0, w_C0, spw_K0_C0, hs4⟩
      clear hab_0 hab_1
      have zw_K0 := Zn.of w_K0
      have zw_C0 := Zn.of w_C0
      replace hab := BoxAt.same hab hs4
      replace hq2b0 := OwnI.same hq2b0 hs4
      replace hq2b1 := OwnI.same hq2b1 hs4
      replace hq3z := OwnI.same hq3z hs4
      have n4 := Same.size hs4
      have S4 : Same w w4 := Same.trans S3 hs4
      clear hs4 S3
      clear hq2b0 zhq2b0
      clear hq2b1 zhq2b1
      clear hq3z zhq3z
      have hw0 : BoxAt (w4.alloc (.cells #[.slice Aw_K0 K0.length cw_K0, .slice Aw_C0 C0.length cw_C0] 29)) (w4.heap.size) 29 [.slice Aw_K0 K0.length cw_K0, .slice Aw_C0 C0.length cw_C0] := by simpa using (BoxAt.new w4 29 [.slice Aw_K0 K0.length cw_K0, .slice Aw_C0 C0.length cw_C0])
      have hs5 := (Same.alloc (Same.refl w4) (.cells #[.slice Aw_K0 K0.length cw_K0, .slice Aw_C0 C0.length cw_C0] 29))
      have m5 : w4.heap.size + 1 ≤ (w4.alloc (.cells #[.slice Aw_K0 K0.length cw_K0, .slice Aw_C0 C0.length cw_C0] 29)).heap.size := by simp
      replace hab := BoxAt.same hab hs5
      replace w_K0 := OwnI.same w_K0 hs5
      replace w_C0 := OwnI.same w_C0 hs5
      have hab_0 := hab.cell 0 rfl
      have hab_1 := hab.cell 1 rfl
      have hw0_0 := hw0.cell 0 rfl
      have hw0_1 := hw0.cell 1 rfl
      go_wp2_with fail
      generalize (w4.alloc (.cells #[.slice Aw_K0 K0.length cw_K0, .slice Aw_C0 C0.length cw_C0] 29)) = w5 at *
      have n5 := Same.size hs5
      have S5 : Same w w5 := Same.trans S4 hs5
      clear hs5 S4
      refine (toBank_any Ab0 cb0 b0 Ab1 cb1 b1 _ hlb0 (hAb0.same S5) hlb1 (hAb1.same S5)).mono ?_
      rintro e w6 ⟨Bb06, eb06, Bb16, eb16, rfl, hxb0, hxb1, sp6, hs6⟩
      clear hab_0 hab_1 hw0_0 hw0_1
      have zhxb0 := Zn.of hxb0
      have zhxb1 := Zn.of hxb1
      replace hab := BoxAt.same hab hs6
      replace w_K0 := OwnI.same w_K0 hs6
      replace w_C0 := OwnI.same w_C0 hs6
      replace hw0 := BoxAt.same hw0 hs6
      have n6 := Same.size hs6
      have S6 : Same w w6 := Same.trans S5 hs6
      clear hs6 S5
      have hxb : BoxAt (w6.alloc (.cells #[.slice Bb06 b0.length eb06, .slice Bb16 b1.length eb16] 29)) (w6.heap.size) 29 [.slice Bb06 b0.length eb06, .slice Bb16 b1.length eb16] := by simpa using (BoxAt.new w6 29 [.slice Bb06 b0.length eb06, .slice Bb16 b1.length eb16])
      have hs7 := (Same.alloc (Same.refl w6) (.cells #[.slice Bb06 b0.length eb06, .slice Bb16 b1.length eb16] 29))
      have m7 : w6.heap.size + 1 ≤ (w6.alloc (.cells #[.slice Bb06 b0.length eb06, .slice Bb16 b1.length eb16] 29)).heap.size := by simp
      replace hab := BoxAt.same hab hs7
      replace w_K0 := OwnI.same w_K0 hs7
      replace w_C0 := OwnI.same w_C0 hs7
      replace hw0 := BoxAt.same hw0 hs7
      replace hxb0 := OwnI.same hxb0 hs7
      replace hxb1 := OwnI.same hxb1 hs7
      have hab_0 := hab.cell 0 rfl
      have hab_1 := hab.cell 1 rfl
      have hw0_0 := hw0.cell 0 rfl
      have hw0_1 := hw0.cell 1 rfl
      have hxb_0 := hxb.cell 0 rfl
      have hxb_1 := hxb.cell 1 rfl
      go_wp2_with fail
      generalize (w6.alloc (.cells #[.slice Bb06 b0.length eb06, .slice Bb16 b1.length eb16] 29)) = w7 at *
      have n7 := Same.size hs7
      have S7 : Same w w7 := Same.trans S6 hs7
      clear hs7 S6
      refine (toIntS_any Az cz z _ hlz (hAz.same S7)).mono ?_
      rintro e w8 ⟨rfl, hxz, hs8⟩
      clear hab_0 hab_1 hw0_0 hw0_1 hxb_0 hxb_1
      have zhxz := Zn.of hxz
      replace hab := BoxAt.same hab hs8
      replace w_K0 := OwnI.same w_K0 hs8
      replace w_C0 := OwnI.same w_C0 hs8
      replace hw0 := BoxAt.same hw0 hs8
      replace hxb0 := OwnI.same hxb0 hs8
      replace hxb1 := OwnI.same hxb1 hs8
      replace hxb := BoxAt.same hxb hs8
      have n8 := Same.size hs8
      have S8 : Same w w8 := Same.trans S7 hs8
      clear hs8 S7
      have hab_0 := hab.cell 0 rfl
      have hab_1 := hab.cell 1 rfl
      have hw0_0 := hw0.cell 0 rfl
      have hw0_1 := hw0.cell 1 rfl
      have hxb_0 := hxb.cell 0 rfl
      have hxb_1 := hxb.cell 1 rfl
      go_wp2_with fail
      refine ((show Calls _ _ _ _ (RetBankX _ (aftRK b0 b1 z) (aftRC b0 b1 z) (.int .i64 (aftRS b0 b1 z))) from iAfter_any _ _ b0 _ _ b1 _ _ z _ (by omega) hwb0 (OwnI.ints hxb0) (by omega) (OwnI.ints hxb1) (by omega) (OwnI.ints hxz))).mono ?_
      rw [← HK0.out, ← HC0.out, ← HX1.out]
      rintro e w9 ⟨Ag_K0, cg_K0, Ag_C0, cg_C0, rfl, g_K0, g_C0, spg_K0_C0, hs9⟩
      clear hab_0 hab_1 hw0_0 hw0_1 hxb_0 hxb_1
      have zg_K0 := Zn.of g_K0
      have zg_C0 := Zn.of g_C0
      replace hab := BoxAt.same hab hs9
      replace w_K0 := OwnI.same w_K0 hs9
      replace w_C0 := OwnI.same w_C0 hs9
      replace hw0 := BoxAt.same hw0 hs9
      replace hxb0 := OwnI.same hxb0 hs9
      replace hxb1 := OwnI.same hxb1 hs9
      replace hxb := BoxAt.same hxb hs9
      replace hxz := OwnI.same hxz hs9
      have n9 := Same.size hs9
      have S9 : Same w w9 := Same.trans S8 hs9
      clear hs9 S8
      have hg0 : BoxAt (w9.alloc (.cells #[.slice Ag_K0 K0.length cg_K0, .slice Ag_C0 C0.length cg_C0] 29)) (w9.heap.size) 29 [.slice Ag_K0 K0.length cg_K0, .slice Ag_C0 C0.length cg_C0] := by simpa using (BoxAt.new w9 29 [.slice Ag_K0 K0.length cg_K0, .slice Ag_C0 C0.length cg_C0])
      have hs10 := (Same.alloc (Same.refl w9) (.cells #[.slice Ag_K0 K0.length cg_K0, .slice Ag_C0 C0.length cg_C0] 29))
      have m10 : w9.heap.size + 1 ≤ (w9.alloc (.cells #[.slice Ag_K0 K0.length cg_K0, .slice Ag_C0 C0.length cg_C0] 29)).heap.size := by simp
      replace hab := BoxAt.same hab hs10
      replace w_K0 := OwnI.same w_K0 hs10
      replace w_C0 := OwnI.same w_C0 hs10
      replace hw0 := BoxAt.same hw0 hs10
      replace hxb0 := OwnI.same hxb0 hs10
      replace hxb1 := OwnI.same hxb1 hs10
      replace hxb := BoxAt.same hxb hs10
      replace hxz := OwnI.same hxz hs10
      replace g_K0 := OwnI.same g_K0 hs10
      replace g_C0 := OwnI.same g_C0 hs10
      have hab_0 := hab.cell 0 rfl
      have hab_1 := hab.cell 1 rfl
      have hw0_0 := hw0.cell 0 rfl
      have hw0_1 := hw0.cell 1 rfl
      have hxb_0 := hxb.cell 0 rfl
      have hxb_1 := hxb.cell 1 rfl
      have hg0_0 := hg0.cell 0 rfl
      have hg0_1 := hg0.cell 1 rfl
      go_wp2_with fail
      generalize (w9.alloc (.cells #[.slice Ag_K0 K0.length cg_K0, .slice Ag_C0 C0.length cg_C0] 29)) = w10 at *
      have n10 := Same.size hs10
      have S10 : Same w w10 := Same.trans S9 hs10
      clear hs10 S9
      refine (eqBank_any _ _ _ _ K0 K0 _ _ _ _ C0 C0 _ hzK0 hzK0 (OwnI.ints g_K0) (OwnI.ints w_K0) hzC0 hzC0 (OwnI.ints g_C0) (OwnI.ints w_C0)).mono ?_
      rintro e w11 ⟨rfl, hs11⟩
      clear hab_0 hab_1 hw0_0 hw0_1 hxb_0 hxb_1 hg0_0 hg0_1
      replace hab := BoxAt.same hab hs11
      replace w_K0 := OwnI.same w_K0 hs11
      replace w_C0 := OwnI.same w_C0 hs11
      replace hw0 := BoxAt.same hw0 hs11
      replace hxb0 := OwnI.same hxb0 hs11
      replace hxb1 := OwnI.same hxb1 hs11
      replace hxb := BoxAt.same hxb hs11
      replace hxz := OwnI.same hxz hs11
      replace g_K0 := OwnI.same g_K0 hs11
      replace g_C0 := OwnI.same g_C0 hs11
      replace hg0 := BoxAt.same hg0 hs11
      have n11 := Same.size hs11
      have S11 : Same w w11 := Same.trans S10 hs11
      clear hs11 S10
      rw [show (decide (K0 = K0) && decide (C0 = C0)) = true by simp]
      have hab_0 := hab.cell 0 rfl
      have hab_1 := hab.cell 1 rfl
      have hxb_0 := hxb.cell 0 rfl
      have hxb_1 := hxb.cell 1 rfl
      go_wp2_with fail
      go_region_held3 (fun w' => w'.cell? ⟨(w6.heap.size), 0, none⟩ = some (.slice Bb06 b0.length eb06) ∧ w'.cell? ⟨(w6.heap.size), 1, none⟩ = some (.slice Bb16 b1.length eb16) ∧ w'.cell? ⟨(w.heap.size), 0, none⟩ = some (.slice Ab0 b0.length cb0) ∧ w'.cell? ⟨(w.heap.size), 1, none⟩ = some (.slice Ab1 b1.length cb1))
        (first | exact ⟨(BoxAt.same hxb (Same.refl w11)).cell 0 rfl, (BoxAt.same hxb (Same.refl w11)).cell 1 rfl, (BoxAt.same hab (Same.refl w11)).cell 0 rfl, (BoxAt.same hab (Same.refl w11)).cell 1 rfl⟩ | exact ⟨(BoxAt.same hxb (Same.refl w11).drew).cell 0 rfl, (BoxAt.same hxb (Same.refl w11).drew).cell 1 rfl, (BoxAt.same hab (Same.refl w11).drew).cell 0 rfl, (BoxAt.same hab (Same.refl w11).drew).cell 1 rfl⟩ | exact ⟨(BoxAt.same hxb (Same.trans (Same.refl w11).drew hsq1_0)).cell 0 rfl, (BoxAt.same hxb (Same.trans (Same.refl w11).drew hsq1_0)).cell 1 rfl, (BoxAt.same hab (Same.trans (Same.refl w11).drew hsq1_0)).cell 0 rfl, (BoxAt.same hab (Same.trans (Same.refl w11).drew hsq1_0)).cell 1 rfl⟩ | exact ⟨(BoxAt.same hxb (Same.trans (Same.trans (Same.refl w11).drew hsq1_0) hsq1_1)).cell 0 rfl, (BoxAt.same hxb (Same.trans (Same.trans (Same.refl w11).drew hsq1_0) hsq1_1)).cell 1 rfl, (BoxAt.same hab (Same.trans (Same.trans (Same.refl w11).drew hsq1_0) hsq1_1)).cell 0 rfl, (BoxAt.same hab (Same.trans (Same.trans (Same.refl w11).drew hsq1_0) hsq1_1)).cell 1 rfl⟩)
        (first | (go_at_call 27; refine (toBank_any Ab0 cb0 b0 Ab1 cb1 b1 _ hlb0 (hAb0.same (Same.trans S11 (Same.refl w11).drew)) hlb1 (hAb1.same (Same.trans S11 (Same.refl w11).drew))).mono ?_; rintro e wq1_0 ⟨Bb0q1_0, eb0q1_0, Bb1q1_0, eb1q1_0, rfl, hq1_b0, hq1_b1, spq1_0, hsq1_0⟩) | (go_at_call 28; refine (eqBank_any _ _ _ _ b0 b0 _ _ _ _ b1 b1  _ hzb0 hzb0 (OwnI.ints (OwnI.same hxb0 (Same.trans (Same.refl w11).drew hsq1_0))) (OwnI.ints hq1_b0) hzb1 hzb1 (OwnI.ints (OwnI.same hxb1 (Same.trans (Same.refl w11).drew hsq1_0))) (OwnI.ints hq1_b1)).mono ?_; rintro e w12 ⟨rfl, hsq1_1⟩; rw [show (decide (b0 = b0) && decide (b1 = b1)) = true by simp]))
      clear hab_0 hab_1 hxb_0 hxb_1
      have hs12 := (Same.trans (Same.trans (Same.refl w11).drew hsq1_0) hsq1_1)
      clear hsq1_0 hsq1_1 hq1_b0 hq1_b1 spq1_0
      replace hab := BoxAt.same hab hs12
      replace w_K0 := OwnI.same w_K0 hs12
      replace w_C0 := OwnI.same w_C0 hs12
      replace hw0 := BoxAt.same hw0 hs12
      replace hxb0 := OwnI.same hxb0 hs12
      replace hxb1 := OwnI.same hxb1 hs12
      replace hxb := BoxAt.same hxb hs12
      replace hxz := OwnI.same hxz hs12
      replace g_K0 := OwnI.same g_K0 hs12
      replace g_C0 := OwnI.same g_C0 hs12
      replace hg0 := BoxAt.same hg0 hs12
      have n12 := Same.size hs12
      have S12 : Same w w12 := Same.trans S11 hs12
      clear hs12 S11
      have hab_0 := hab.cell 0 rfl
      have hab_1 := hab.cell 1 rfl
      have hw0_0 := hw0.cell 0 rfl
      have hw0_1 := hw0.cell 1 rfl
      have hxb_0 := hxb.cell 0 rfl
      have hxb_1 := hxb.cell 1 rfl
      have hg0_0 := hg0.cell 0 rfl
      have hg0_1 := hg0.cell 1 rfl
      go_wp2_with fail
      refine (toIntS_any Az cz z _ hlz (hAz.same S12)).mono ?_
      rintro e w13 ⟨rfl, hyz, hs13⟩
      clear hab_0 hab_1 hw0_0 hw0_1 hxb_0 hxb_1 hg0_0 hg0_1
      have zhyz := Zn.of hyz
      replace hab := BoxAt.same hab hs13
      replace w_K0 := OwnI.same w_K0 hs13
      replace w_C0 := OwnI.same w_C0 hs13
      replace hw0 := BoxAt.same hw0 hs13
      replace hxb0 := OwnI.same hxb0 hs13
      replace hxb1 := OwnI.same hxb1 hs13
      replace hxb := BoxAt.same hxb hs13
      replace hxz := OwnI.same hxz hs13
      replace g_K0 := OwnI.same g_K0 hs13
      replace g_C0 := OwnI.same g_C0 hs13
      replace hg0 := BoxAt.same hg0 hs13
      have n13 := Same.size hs13
      have S13 : Same w w13 := Same.trans S12 hs13
      clear hs13 S12
      have hab_0 := hab.cell 0 rfl
      have hab_1 := hab.cell 1 rfl
      have hw0_0 := hw0.cell 0 rfl
      have hw0_1 := hw0.cell 1 rfl
      have hxb_0 := hxb.cell 0 rfl
      have hxb_1 := hxb.cell 1 rfl
      have hg0_0 := hg0.cell 0 rfl
      have hg0_1 := hg0.cell 1 rfl
      go_wp2_with fail
      refine (eqIntS_any _ _ _ _ z z _ hzz hzz (OwnI.ints hxz) (OwnI.ints hyz)).mono ?_
      rintro e w14 ⟨rfl, hd14⟩
      clear hab_0 hab_1 hw0_0 hw0_1 hxb_0 hxb_1 hg0_0 hg0_1
      have hs14 := Drew.same hd14
      clear hd14
      replace hab := BoxAt.same hab hs14
      replace w_K0 := OwnI.same w_K0 hs14
      replace w_C0 := OwnI.same w_C0 hs14
      replace hw0 := BoxAt.same hw0 hs14
      replace hxb0 := OwnI.same hxb0 hs14
      replace hxb1 := OwnI.same hxb1 hs14
      replace hxb := BoxAt.same hxb hs14
      replace hxz := OwnI.same hxz hs14
      replace g_K0 := OwnI.same g_K0 hs14
      replace g_C0 := OwnI.same g_C0 hs14
      replace hg0 := BoxAt.same hg0 hs14
      replace hyz := OwnI.same hyz hs14
      have n14 := Same.size hs14
      have S14 : Same w w14 := Same.trans S13 hs14
      clear hs14 S13
      rw [decide_eq_true rfl]
      clear hyz zhyz
      have hab_0 := hab.cell 0 rfl
      have hab_1 := hab.cell 1 rfl
      have hw0_0 := hw0.cell 0 rfl
      have hw0_1 := hw0.cell 1 rfl
      have hxb_0 := hxb.cell 0 rfl
      have hxb_1 := hxb.cell 1 rfl
      have hg0_0 := hg0.cell 0 rfl
      have hg0_1 := hg0.cell 1 rfl
      go_wp2_with fail
      refine (markBank_any _ _ _ b0 _ _ _ b1 1 _ _ _ rfl (by omega) rfl (by omega) (by omega) (by omega) hxb0 hxb1 sp6).mono ?_
      rintro e w15 ⟨rfl, hx9b0, hx9b1, hu15⟩
      clear hab_0 hab_1 hw0_0 hw0_1 hxb_0 hxb_1 hg0_0 hg0_1
      replace hab := Only2.box hu15 hab (Zn.box zhxb0 (by omega)) (Zn.box zhxb1 (by omega))
      replace w_K0 := Only2.owns hu15 w_K0 (Sep.symm (Sep.zn zw_K0 zhxb0 (by omega))) (Sep.symm (Sep.zn zw_K0 zhxb1 (by omega)))
      replace w_C0 := Only2.owns hu15 w_C0 (Sep.symm (Sep.zn zw_C0 zhxb0 (by omega))) (Sep.symm (Sep.zn zw_C0 zhxb1 (by omega)))
      replace hw0 := Only2.box hu15 hw0 (Zn.box zhxb0 (by omega)) (Zn.box zhxb1 (by omega))
      replace hxb := Only2.box hu15 hxb (Zn.box zhxb0 (by omega)) (Zn.box zhxb1 (by omega))
      replace hxz := Only2.owns hu15 hxz (Sep.zn zhxb0 zhxz (by omega)) (Sep.zn zhxb1 zhxz (by omega))
      replace g_K0 := Only2.owns hu15 g_K0 (Sep.zn zhxb0 zg_K0 (by omega)) (Sep.zn zhxb1 zg_K0 (by omega))
      replace g_C0 := Only2.owns hu15 g_C0 (Sep.zn zhxb0 zg_C0 (by omega)) (Sep.zn zhxb1 zg_C0 (by omega))
      replace hg0 := Only2.box hu15 hg0 (Zn.box zhxb0 (by omega)) (Zn.box zhxb1 (by omega))
      have n15 := hu15.size
      have S15 : Same w w15 := Only2.same S14 hu15 (Zn.lo zhxb0 (by omega)) (Zn.lo zhxb1 (by omega))
      clear hu15 S14 hxb0 hxb1
      clear hx9b0 zhxb0
      clear hx9b1 zhxb1
      clear hxb
      have hab_0 := hab.cell 0 rfl
      have hab_1 := hab.cell 1 rfl
      have hw0_0 := hw0.cell 0 rfl
      have hw0_1 := hw0.cell 1 rfl
      have hg0_0 := hg0.cell 0 rfl
      have hg0_1 := hg0.cell 1 rfl
      go_wp2_with fail
      refine (markI_only _ _ _ z (1 + (b0.length : Int) + (b1.length : Int)) _ _ rfl (by omega) (by omega) (by omega) hxz).mono ?_
      rintro e w16 ⟨⟨rfl, hx9z⟩, hu16⟩
      clear hab_0 hab_1 hw0_0 hw0_1 hg0_0 hg0_1
      replace hab := Only1.box hu16 hab (Zn.box zhxz (by omega))
      replace w_K0 := Only1.owns hu16 w_K0 (Sep.symm (Sep.zn zw_K0 zhxz (by omega)))
      replace w_C0 := Only1.owns hu16 w_C0 (Sep.symm (Sep.zn zw_C0 zhxz (by omega)))
      replace hw0 := Only1.box hu16 hw0 (Zn.box zhxz (by omega))
      replace g_K0 := Only1.owns hu16 g_K0 (Sep.zn zhxz zg_K0 (by omega))
      replace g_C0 := Only1.owns hu16 g_C0 (Sep.zn zhxz zg_C0 (by omega))
      replace hg0 := Only1.box hu16 hg0 (Zn.box zhxz (by omega))
      have n16 := hu16.size
      have S16 : Same w w16 := Only1.same S15 hu16 (Zn.lo zhxz (by omega))
      clear hu16 S15 hxz
      clear hx9z zhxz
      have hab_0 := hab.cell 0 rfl
      have hab_1 := hab.cell 1 rfl
      have hw0_0 := hw0.cell 0 rfl
      have hw0_1 := hw0.cell 1 rfl
      have hg0_0 := hg0.cell 0 rfl
      have hg0_1 := hg0.cell 1 rfl
      go_wp2_with fail
      refine (eqBank_any _ _ _ _ K0 K0 _ _ _ _ C0 C0 _ hzK0 hzK0 (OwnI.ints g_K0) (OwnI.ints w_K0) hzC0 hzC0 (OwnI.ints g_C0) (OwnI.ints w_C0)).mono ?_
      rintro e w17 ⟨rfl, hs17⟩
      clear hab_0 hab_1 hw0_0 hw0_1 hg0_0 hg0_1
      replace hab := BoxAt.same hab hs17
      replace w_K0 := OwnI.same w_K0 hs17
      replace w_C0 := OwnI.same w_C0 hs17
      replace hw0 := BoxAt.same hw0 hs17
      replace g_K0 := OwnI.same g_K0 hs17
      replace g_C0 := OwnI.same g_C0 hs17
      replace hg0 := BoxAt.same hg0 hs17
      have n17 := Same.size hs17
      have S17 : Same w w17 := Same.trans S16 hs17
      clear hs17 S16
      rw [show (decide (K0 = K0) && decide (C0 = C0)) = true by simp]
      have hab_0 := hab.cell 0 rfl
      have hab_1 := hab.cell 1 rfl
      have hw0_0 := hw0.cell 0 rfl
      have hw0_1 := hw0.cell 1 rfl
      have hg0_0 := hg0.cell 0 rfl
      have hg0_1 := hg0.cell 1 rfl
      go_wp2_with fail
      refine (markBank_any _ _ _ K0 _ _ _ C0 1 _ _ _ rfl (by omega) rfl (by omega) (by omega) (by omega) g_K0 g_C0 spg_K0_C0).mono ?_
      rintro e w18 ⟨rfl, g9_K0, g9_C0, hu18⟩
      clear hab_0 hab_1 hw0_0 hw0_1 hg0_0 hg0_1
      replace hab := Only2.box hu18 hab (Zn.box zg_K0 (by omega)) (Zn.box zg_C0 (by omega))
      replace w_K0 := Only2.owns hu18 w_K0 (Sep.symm (Sep.zn zw_K0 zg_K0 (by omega))) (Sep.symm (Sep.zn zw_K0 zg_C0 (by omega)))
      replace w_C0 := Only2.owns hu18 w_C0 (Sep.symm (Sep.zn zw_C0 zg_K0 (by omega))) (Sep.symm (Sep.zn zw_C0 zg_C0 (by omega)))
      replace hw0 := Only2.box hu18 hw0 (Zn.box zg_K0 (by omega)) (Zn.box zg_C0 (by omega))
      replace hg0 := Only2.box hu18 hg0 (Zn.box zg_K0 (by omega)) (Zn.box zg_C0 (by omega))
      have n18 := hu18.size
      have S18 : Same w w18 := Only2.same S17 hu18 (Zn.lo zg_K0 (by omega)) (Zn.lo zg_C0 (by omega))
      clear hu18 S17 g_K0 g_C0
      have hq : ((1 + (K0.length : Int) + (C0.length : Int)) != (1 + (K0.length : Int) + (C0.length : Int))) = false := by simp
      have hab_0 := hab.cell 0 rfl
      have hab_1 := hab.cell 1 rfl
      have hw0_0 := hw0.cell 0 rfl
      have hw0_1 := hw0.cell 1 rfl
      have hg0_0 := hg0.cell 0 rfl
      have hg0_1 := hg0.cell 1 rfl
      go_wp2_with fail
      refine (heldBank_any _ _ _ _ _ _ 1 _ (by omega) (by omega) (by omega) (by omega) (OwnI.ints g9_K0) (OwnI.ints g9_C0)).mono ?_
      rintro e w19 ⟨rfl, hs19⟩
      clear hab_0 hab_1 hw0_0 hw0_1 hg0_0 hg0_1
      replace hab := BoxAt.same hab hs19
      replace w_K0 := OwnI.same w_K0 hs19
      replace w_C0 := OwnI.same w_C0 hs19
      replace hw0 := BoxAt.same hw0 hs19
      replace g9_K0 := OwnI.same g9_K0 hs19
      replace g9_C0 := OwnI.same g9_C0 hs19
      replace hg0 := BoxAt.same hg0 hs19
      have n19 := Same.size hs19
      have S19 : Same w w19 := Same.trans S18 hs19
      clear hs19 S18
      have hab_0 := hab.cell 0 rfl
      have hab_1 := hab.cell 1 rfl
      have hw0_0 := hw0.cell 0 rfl
      have hw0_1 := hw0.cell 1 rfl
      have hg0_0 := hg0.cell 0 rfl
      have hg0_1 := hg0.cell 1 rfl
      go_wp2_with fail
      refine (toBank_any Ab0 cb0 b0 Ab1 cb1 b1 _ hlb0 (hAb0.same S19) hlb1 (hAb1.same S19)).mono ?_
      rintro e w20 ⟨Bb020, eb020, Bb120, eb120, rfl, hq20b0, hq20b1, sp20, hs20⟩
      clear hab_0 hab_1 hw0_0 hw0_1 hg0_0 hg0_1
      have zhq20b0 := Zn.of hq20b0
      have zhq20b1 := Zn.of hq20b1
      replace hab := BoxAt.same hab hs20
      replace w_K0 := OwnI.same w_K0 hs20
      replace w_C0 := OwnI.same w_C0 hs20
      replace hw0 := BoxAt.same hw0 hs20
      replace g9_K0 := OwnI.same g9_K0 hs20
      replace g9_C0 := OwnI.same g9_C0 hs20
      replace hg0 := BoxAt.same hg0 hs20
      have n20 := Same.size hs20
      have S20 : Same w w20 := Same.trans S19 hs20
      clear hs20 S19
      have hab_0 := hab.cell 0 rfl
      have hab_1 := hab.cell 1 rfl
      have hw0_0 := hw0.cell 0 rfl
      have hw0_1 := hw0.cell 1 rfl
      have hg0_0 := hg0.cell 0 rfl
      have hg0_1 := hg0.cell 1 rfl
      go_wp2_with fail
      refine (toIntS_any Az cz z _ hlz (hAz.same S20)).mono ?_
      rintro e w21 ⟨rfl, hq21z, hs21⟩
      clear hab_0 hab_1 hw0_0 hw0_1 hg0_0 hg0_1
      have zhq21z := Zn.of hq21z
      replace hab := BoxAt.same hab hs21
      replace w_K0 := OwnI.same w_K0 hs21
      replace w_C0 := OwnI.same w_C0 hs21
      replace hw0 := BoxAt.same hw0 hs21
      replace g9_K0 := OwnI.same g9_K0 hs21
      replace g9_C0 := OwnI.same g9_C0 hs21
      replace hg0 := BoxAt.same hg0 hs21
      replace hq20b0 := OwnI.same hq20b0 hs21
      replace hq20b1 := OwnI.same hq20b1 hs21
      have n21 := Same.size hs21
      have S21 : Same w w21 := Same.trans S20 hs21
      clear hs21 S20
      have hab_0 := hab.cell 0 rfl
      have hab_1 := hab.cell 1 rfl
      have hw0_0 := hw0.cell 0 rfl
      have hw0_1 := hw0.cell 1 rfl
      have hg0_0 := hg0.cell 0 rfl
      have hg0_1 := hg0.cell 1 rfl
      go_wp2_with fail
      refine ((show Calls _ _ _ _ (RetBankX _ (aftRK b0 b1 z) (aftRC b0 b1 z) (.int .i64 (aftRS b0 b1 z))) from iAfter_any _ _ b0 _ _ b1 _ _ z _ (by omega) hwb0 (OwnI.ints hq20b0) (by omega) (OwnI.ints hq20b1) (by omega) (OwnI.ints hq21z))).mono ?_
      rw [← HK0.out, ← HC0.out, ← HX1.out]
      rintro e w22 ⟨Ah_K0, ch_K0, Ah_C0, ch_C0, rfl, h_K0, h_C0, sph_K0_C0, hs22⟩
      clear hab_0 hab_1 hw0_0 hw0_1 hg0_0 hg0_1
      have zh_K0 := Zn.of h_K0
      have zh_C0 := Zn.of h_C0
      replace hab := BoxAt.same hab hs22
      replace w_K0 := OwnI.same w_K0 hs22
      replace w_C0 := OwnI.same w_C0 hs22
      replace hw0 := BoxAt.same hw0 hs22
      replace g9_K0 := OwnI.same g9_K0 hs22
      replace g9_C0 := OwnI.same g9_C0 hs22
      replace hg0 := BoxAt.same hg0 hs22
      replace hq20b0 := OwnI.same hq20b0 hs22
      replace hq20b1 := OwnI.same hq20b1 hs22
      replace hq21z := OwnI.same hq21z hs22
      have n22 := Same.size hs22
      have S22 : Same w w22 := Same.trans S21 hs22
      clear hs22 S21
      clear hq20b0 zhq20b0
      clear hq20b1 zhq20b1
      clear hq21z zhq21z
      have hh0 : BoxAt (w22.alloc (.cells #[.slice Ah_K0 K0.length ch_K0, .slice Ah_C0 C0.length ch_C0] 29)) (w22.heap.size) 29 [.slice Ah_K0 K0.length ch_K0, .slice Ah_C0 C0.length ch_C0] := by simpa using (BoxAt.new w22 29 [.slice Ah_K0 K0.length ch_K0, .slice Ah_C0 C0.length ch_C0])
      have hs23 := (Same.alloc (Same.refl w22) (.cells #[.slice Ah_K0 K0.length ch_K0, .slice Ah_C0 C0.length ch_C0] 29))
      have m23 : w22.heap.size + 1 ≤ (w22.alloc (.cells #[.slice Ah_K0 K0.length ch_K0, .slice Ah_C0 C0.length ch_C0] 29)).heap.size := by simp
      replace hab := BoxAt.same hab hs23
      replace w_K0 := OwnI.same w_K0 hs23
      replace w_C0 := OwnI.same w_C0 hs23
      replace hw0 := BoxAt.same hw0 hs23
      replace g9_K0 := OwnI.same g9_K0 hs23
      replace g9_C0 := OwnI.same g9_C0 hs23
      replace hg0 := BoxAt.same hg0 hs23
      replace h_K0 := OwnI.same h_K0 hs23
      replace h_C0 := OwnI.same h_C0 hs23
      have hab_0 := hab.cell 0 rfl
      have hab_1 := hab.cell 1 rfl
      have hw0_0 := hw0.cell 0 rfl
      have hw0_1 := hw0.cell 1 rfl
      have hg0_0 := hg0.cell 0 rfl
      have hg0_1 := hg0.cell 1 rfl
      have hh0_0 := hh0.cell 0 rfl
      have hh0_1 := hh0.cell 1 rfl
      go_wp2_with fail
      generalize (w22.alloc (.cells #[.slice Ah_K0 K0.length ch_K0, .slice Ah_C0 C0.length ch_C0] 29)) = w23 at *
      have n23 := Same.size hs23
      have S23 : Same w w23 := Same.trans S22 hs23
      clear hs23 S22
      refine (eqBank_any _ _ _ _ K0 K0 _ _ _ _ C0 C0 _ hzK0 hzK0 (OwnI.ints h_K0) (OwnI.ints w_K0) hzC0 hzC0 (OwnI.ints h_C0) (OwnI.ints w_C0)).mono ?_
      rintro e w24 ⟨rfl, hs24⟩
      clear hab_0 hab_1 hw0_0 hw0_1 hg0_0 hg0_1 hh0_0 hh0_1
      replace hab := BoxAt.same hab hs24
      replace w_K0 := OwnI.same w_K0 hs24
      replace w_C0 := OwnI.same w_C0 hs24
      replace hw0 := BoxAt.same hw0 hs24
      replace g9_K0 := OwnI.same g9_K0 hs24
      replace g9_C0 := OwnI.same g9_C0 hs24
      replace hg0 := BoxAt.same hg0 hs24
      replace h_K0 := OwnI.same h_K0 hs24
      replace h_C0 := OwnI.same h_C0 hs24
      replace hh0 := BoxAt.same hh0 hs24
      have n24 := Same.size hs24
      have S24 : Same w w24 := Same.trans S23 hs24
      clear hs24 S23
      rw [show (decide (K0 = K0) && decide (C0 = C0)) = true by simp]
      have hab_0 := hab.cell 0 rfl
      have hab_1 := hab.cell 1 rfl
      have hw0_0 := hw0.cell 0 rfl
      have hw0_1 := hw0.cell 1 rfl
      have hg0_0 := hg0.cell 0 rfl
      have hg0_1 := hg0.cell 1 rfl
      have hh0_0 := hh0.cell 0 rfl
      have hh0_1 := hh0.cell 1 rfl
      go_wp2_with fail
      refine (heldBank_any _ _ _ _ _ _ 1 _ (by omega) (by omega) (by omega) (by omega) (OwnI.ints g9_K0) (OwnI.ints g9_C0)).mono ?_
      rintro e w25 ⟨rfl, hs25⟩
      clear hab_0 hab_1 hw0_0 hw0_1 hg0_0 hg0_1 hh0_0 hh0_1
      replace hab := BoxAt.same hab hs25
      replace w_K0 := OwnI.same w_K0 hs25
      replace w_C0 := OwnI.same w_C0 hs25
      replace hw0 := BoxAt.same hw0 hs25
      replace g9_K0 := OwnI.same g9_K0 hs25
      replace g9_C0 := OwnI.same g9_C0 hs25
      replace hg0 := BoxAt.same hg0 hs25
      replace h_K0 := OwnI.same h_K0 hs25
      replace h_C0 := OwnI.same h_C0 hs25
      replace hh0 := BoxAt.same hh0 hs25
      have n25 := Same.size hs25
      have S25 : Same w w25 := Same.trans S24 hs25
      clear hs25 S24
      have hab_0 := hab.cell 0 rfl
      have hab_1 := hab.cell 1 rfl
      have hw0_0 := hw0.cell 0 rfl
      have hw0_1 := hw0.cell 1 rfl
      have hg0_0 := hg0.cell 0 rfl
      have hg0_1 := hg0.cell 1 rfl
      have hh0_0 := hh0.cell 0 rfl
      have hh0_1 := hh0.cell 1 rfl
      go_wp2_with fail
      go_ret
      exact ⟨rfl, S25⟩
    · go_enter Try.func9, Try.ntmps9
      go_wp2_with fail
      have hab : BoxAt (w.alloc (.cells #[.slice Ab0 b0.length cb0, .slice Ab1 b1.length cb1] 42)) (w.heap.size) 42 [.slice Ab0 b0.length cb0, .slice Ab1 b1.length cb1] := by simpa using (BoxAt.new w 42 [.slice Ab0 b0.length cb0, .slice Ab1 b1.length cb1])
      have hs0 := (Same.alloc (Same.refl w) (.cells #[.slice Ab0 b0.length cb0, .slice Ab1 b1.length cb1] 42))
      have m0 : w.heap.size + 1 ≤ (w.alloc (.cells #[.slice Ab0 b0.length cb0, .slice Ab1 b1.length cb1] 42)).heap.size := by simp
      generalize (w.alloc (.cells #[.slice Ab0 b0.length cb0, .slice Ab1 b1.length cb1] 42)) = w0 at *
      have n0 := Same.size hs0
      have S0 : Same w w0 := Same.trans (Same.refl w) hs0
      clear hs0
      refine (szBank_any Ab0 b0.length cb0 Ab1 b1.length cb1 1048576 _ hzb0 hzb1 (by omega) (by omega)).mono ?_
      rintro e w1 ⟨rfl, hs1⟩
      replace hab := BoxAt.same hab hs1
      have n1 := Same.size hs1
      have S1 : Same w w1 := Same.trans S0 hs1
      clear hs1 S0
      rw [if_neg (show ¬ (b0.length : Int) + (b1.length : Int) ≤ 1048576 by omega)]
      go_wp2
      go_ret
      exact ⟨rfl, S1⟩
  · go_enter Try.func9, Try.ntmps9
    go_wp2
    go_ret
    exact ⟨rfl, (Same.refl w).alloc _⟩
end Go.Proofs.Ytccgbilgfnoheaa
