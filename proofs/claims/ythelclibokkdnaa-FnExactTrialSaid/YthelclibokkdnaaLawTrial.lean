/-
  FnExactTrial: for every ledger and month the program's trial balance is the reference's, the ledger is left as it was and shares nothing with the answer. No condition.
-/
import Derived.Test.YthelclibokkdnaaTrial
import Derived.Test.YthelclibokkdnaaLedgerMark
import Derived.Deep.RegionHeld3
namespace Go.Proofs.Ythelclibokkdnaa
open Go.RowKit

set_option maxHeartbeats 4000000 in
theorem lawTrial (AL : Option Addr) (cL : Nat) (L : List TPosting) (m : Int) (w : World) (hzL : L.length ≤ 9223372036854775807) (hAL : AtPosting w AL L) (_ : (Lit.int .i64 m).wf = true) :
    Calls Try.prog 14 #[.agg #[.slice AL L.length cL], .int .i64 m] w fun e w' => e = .returned (.bool true) ∧ Same w w' := by
  by_cases hl : ((L.length : Int) : Int) ≤ 1048576
  · obtain ⟨R, hR⟩ : ∃ R, R = trial L m := ⟨_, rfl⟩
    have hlR : R.length ≤ 600000 := by rw [hR]; exact trial_len L m
    have hzR : R.length ≤ 9223372036854775807 := by omega
    have HR := Lib.hid hR
    clear hR
    have hlL : L.length ≤ 1048576 := by omega
    go_enter Try.func14, Try.ntmps14
    go_wp2_with fail
    have ha := BoxAt.new w 33 [.slice AL L.length cL]
    have hs0 := (Same.refl w).alloc (.cells #[.slice AL L.length cL] 33)
    have m0 : w.heap.size < (w.alloc (.cells #[.slice AL L.length cL] 33)).heap.size := by simp
    generalize w.alloc (.cells #[.slice AL L.length cL] 33) = w0 at *
    have n0 := hs0.size
    have S0 : Same w w0 := (Same.refl w).trans hs0
    clear hs0
    refine (szLedger_any AL L.length cL 1048576 _ hzL (by omega) (by omega)).mono ?_
    rintro e w1 ⟨rfl, hs1⟩
    replace ha := BoxAt.same ha hs1
    have n1 := hs1.size
    have S1 : Same w w1 := S0.trans hs1
    clear hs1 S0
    rw [if_pos hl]
    have ha_0 := ha.cell 0 rfl
    go_wp2_with fail
    refine (toLedger_any AL cL L _ hlL (hAL.same S1)).mono ?_
    rintro e w2 ⟨BL2, eL2, rfl, ho0L, hs2⟩
    clear ha_0
    have zho0L := Zn.of ho0L
    replace ha := BoxAt.same ha hs2
    have n2 := hs2.size
    have S2 : Same w w2 := S1.trans hs2
    clear hs2 S1
    have ha_0 := ha.cell 0 rfl
    go_wp2_with fail
    refine (sTrial_any _ _ L m _ hzL (OwnR.recs cPosting_len ho0L)).mono ?_
    rw [← HR.out]
    rintro e w3 ⟨AR3, cR3, rfl, hw, hs3⟩
    clear ha_0
    have zhw := Zn.of hw
    replace ha := BoxAt.same ha hs3
    replace ho0L := OwnR.same ho0L hs3
    have n3 := hs3.size
    have S3 : Same w w3 := S2.trans hs3
    clear hs3 S2
    clear ho0L zho0L
    have ha_0 := ha.cell 0 rfl
    go_wp2_with fail
    refine (toLedger_any AL cL L _ hlL (hAL.same S3)).mono ?_
    rintro e w4 ⟨BL4, eL4, rfl, hxL, hs4⟩
    clear ha_0
    have zhxL := Zn.of hxL
    replace ha := BoxAt.same ha hs4
    replace hw := OwnI.same hw hs4
    have n4 := hs4.size
    have S4 : Same w w4 := S3.trans hs4
    clear hs4 S3
    have ha_0 := ha.cell 0 rfl
    go_wp2_with fail
    have hb := BoxAt.new w4 38 [.slice BL4 L.length eL4]
    have hs5 := (Same.refl w4).alloc (.cells #[.slice BL4 L.length eL4] 38)
    have m5 : w4.heap.size < (w4.alloc (.cells #[.slice BL4 L.length eL4] 38)).heap.size := by simp
    generalize w4.alloc (.cells #[.slice BL4 L.length eL4] 38) = w5 at *
    replace ha := BoxAt.same ha hs5
    replace hw := OwnI.same hw hs5
    replace hxL := OwnR.same hxL hs5
    have n5 := hs5.size
    have S5 : Same w w5 := S4.trans hs5
    clear hs5 S4
    refine (iTrial_any _ _ L m _ hzL (OwnR.recs cPosting_len hxL)).mono ?_
    rw [← HR.out]
    rintro e w6 ⟨AR6, cR6, rfl, hg, hs6⟩
    clear ha_0
    have zhg := Zn.of hg
    replace ha := BoxAt.same ha hs6
    replace hw := OwnI.same hw hs6
    replace hxL := OwnR.same hxL hs6
    replace hb := BoxAt.same hb hs6
    have n6 := hs6.size
    have S6 : Same w w6 := S5.trans hs6
    clear hs6 S5
    have ha_0 := ha.cell 0 rfl
    have hb_0 := hb.cell 0 rfl
    go_wp2_with fail
    refine (eqIntS_any _ _ _ _ R R _ hzR hzR (OwnI.ints hg) (OwnI.ints hw)).mono ?_
    rintro e w7 ⟨rfl, hd7⟩
    clear ha_0 hb_0
    have hs7 := hd7.same
    clear hd7
    replace ha := BoxAt.same ha hs7
    replace hw := OwnI.same hw hs7
    replace hxL := OwnR.same hxL hs7
    replace hb := BoxAt.same hb hs7
    replace hg := OwnI.same hg hs7
    have n7 := hs7.size
    have S7 : Same w w7 := S6.trans hs7
    clear hs7 S6
    rw [decide_eq_true rfl]
    have ha_0 := ha.cell 0 rfl
    have hb_0 := hb.cell 0 rfl
    go_wp2_with fail
    go_region_held3 (fun w' => w'.cell? ⟨w.heap.size, 0, none⟩ = some (.slice AL L.length cL) ∧ w'.cell? ⟨w4.heap.size, 0, none⟩ = some (.slice BL4 L.length eL4))
      (first | exact ⟨ha_0, hb_0⟩ | exact ⟨(ha.same ((Same.refl _).drew.trans hs8)).cell 0 rfl, (hb.same ((Same.refl _).drew.trans hs8)).cell 0 rfl⟩ | exact ⟨(ha.same (((Same.refl _).drew.trans hs8).trans hs9)).cell 0 rfl, (hb.same (((Same.refl _).drew.trans hs8).trans hs9)).cell 0 rfl⟩)
      (first
        | (go_at_call 24; refine (toLedger_any AL cL L _ hlL (hAL.same S7.drew)).mono ?_; rintro e w8 ⟨BL8, eL8, rfl, hqL, hs8⟩)
        | (go_at_call 26; refine (eqLedger_any _ _ _ _ L L  _ hzL hzL (OwnR.recs cPosting_len (OwnR.same hxL ((Same.refl _).drew.trans hs8))) (OwnR.recs cPosting_len hqL)).mono ?_; rintro e w9 ⟨rfl, hs9⟩; rw [show (decide (L = L)) = true by simp]))
    have hsr := (((Same.refl _).drew.trans hs8).trans hs9)
    clear ha_0 hb_0
    clear hs8 hs9 hqL
    replace ha := BoxAt.same ha hsr
    replace hw := OwnI.same hw hsr
    replace hxL := OwnR.same hxL hsr
    replace hb := BoxAt.same hb hsr
    replace hg := OwnI.same hg hsr
    have n9 := hsr.size
    have S9 : Same w w9 := S7.trans hsr
    clear hsr S7
    have ha_0 := ha.cell 0 rfl
    have hb_0 := hb.cell 0 rfl
    go_wp2_with fail
    refine (markLedger_any _ _ _ L 1 _ _ rfl (by omega) (by omega) (by omega) hxL zhxL).mono ?_
    rintro e w10 ⟨rfl, hx9, hs10⟩
    clear ha_0 hb_0
    replace ha := BoxAt.upd ha hs10 (.inl (by omega))
    replace hw := OwnI.upd hw hs10 zhw (.inl (by omega))
    replace hb := BoxAt.upd hb hs10 (.inr (by omega))
    replace hg := OwnI.upd hg hs10 zhg (.inr (by omega))
    have n10 := hs10.size
    have S10 : Same w w10 := S9.upds hs10 (by omega)
    clear hs10 S9
    clear hxL
    clear hx9 zhxL
    have ha_0 := ha.cell 0 rfl
    have hb_0 := hb.cell 0 rfl
    go_wp2_with fail
    refine (eqIntS_any _ _ _ _ R R _ hzR hzR (OwnI.ints hg) (OwnI.ints hw)).mono ?_
    rintro e w11 ⟨rfl, hd11⟩
    clear ha_0 hb_0
    have hs11 := hd11.same
    clear hd11
    replace ha := BoxAt.same ha hs11
    replace hw := OwnI.same hw hs11
    replace hb := BoxAt.same hb hs11
    replace hg := OwnI.same hg hs11
    have n11 := hs11.size
    have S11 : Same w w11 := S10.trans hs11
    clear hs11 S10
    rw [decide_eq_true rfl]
    have ha_0 := ha.cell 0 rfl
    have hb_0 := hb.cell 0 rfl
    go_wp2_with fail
    refine (markIntS_any _ _ _ R 1 _ _ rfl (by omega) (by omega) (by omega) hg zhg).mono ?_
    rintro e w12 ⟨rfl, hg9, hs12⟩
    clear ha_0 hb_0
    replace ha := BoxAt.upd ha hs12 (.inl (by omega))
    replace hw := OwnI.upd hw hs12 zhw (.inl (by omega))
    replace hb := BoxAt.upd hb hs12 (.inl (by omega))
    have n12 := hs12.size
    have S12 : Same w w12 := S11.upds hs12 (by omega)
    clear hs12 S11
    clear hg
    have ha_0 := ha.cell 0 rfl
    have hb_0 := hb.cell 0 rfl
    go_wp2_with fail
    refine (heldIntS_any _ _ _ 1 _ (by omega) (by omega) (by omega) (OwnI.ints hg9)).mono ?_
    rintro e w12 ⟨rfl, rfl⟩
    clear ha_0 hb_0
    have hq : ((1 + (R.length : Int)) != (1 + (R.length : Int))) = false := by simp
    have ha_0 := ha.cell 0 rfl
    have hb_0 := hb.cell 0 rfl
    go_wp2_with fail
    refine (toLedger_any AL cL L _ hlL (hAL.same S12)).mono ?_
    rintro e w13 ⟨BL13, eL13, rfl, ho2L, hs13⟩
    clear ha_0 hb_0
    have zho2L := Zn.of ho2L
    replace ha := BoxAt.same ha hs13
    replace hw := OwnI.same hw hs13
    replace hb := BoxAt.same hb hs13
    replace hg9 := OwnI.same hg9 hs13
    have n13 := hs13.size
    have S13 : Same w w13 := S12.trans hs13
    clear hs13 S12
    have ha_0 := ha.cell 0 rfl
    have hb_0 := hb.cell 0 rfl
    go_wp2_with fail
    refine (iTrial_any _ _ L m _ hzL (OwnR.recs cPosting_len ho2L)).mono ?_
    rw [← HR.out]
    rintro e w14 ⟨AR14, cR14, rfl, hh, hs14⟩
    clear ha_0 hb_0
    have zhh := Zn.of hh
    replace ha := BoxAt.same ha hs14
    replace hw := OwnI.same hw hs14
    replace hb := BoxAt.same hb hs14
    replace hg9 := OwnI.same hg9 hs14
    replace ho2L := OwnR.same ho2L hs14
    have n14 := hs14.size
    have S14 : Same w w14 := S13.trans hs14
    clear hs14 S13
    clear ho2L zho2L
    have ha_0 := ha.cell 0 rfl
    have hb_0 := hb.cell 0 rfl
    go_wp2_with fail
    refine (eqIntS_any _ _ _ _ R R _ hzR hzR (OwnI.ints hh) (OwnI.ints hw)).mono ?_
    rintro e w15 ⟨rfl, hd15⟩
    clear ha_0 hb_0
    have hs15 := hd15.same
    clear hd15
    replace ha := BoxAt.same ha hs15
    replace hw := OwnI.same hw hs15
    replace hb := BoxAt.same hb hs15
    replace hg9 := OwnI.same hg9 hs15
    replace hh := OwnI.same hh hs15
    have n15 := hs15.size
    have S15 : Same w w15 := S14.trans hs15
    clear hs15 S14
    rw [decide_eq_true rfl]
    clear hh zhh
    clear hw zhw
    have ha_0 := ha.cell 0 rfl
    have hb_0 := hb.cell 0 rfl
    go_wp2_with fail
    refine (heldIntS_any _ _ _ 1 _ (by omega) (by omega) (by omega) (OwnI.ints hg9)).mono ?_
    rintro e w15 ⟨rfl, rfl⟩
    clear ha_0 hb_0
    have ha_0 := ha.cell 0 rfl
    have hb_0 := hb.cell 0 rfl
    go_wp2_with fail
    go_ret
    exact ⟨rfl, S15⟩
  · go_enter Try.func14, Try.ntmps14
    go_wp2_with fail
    refine (szLedger_any AL L.length cL 1048576 _ hzL (by omega) (by omega)).mono ?_
    rintro e w1 ⟨rfl, hs1⟩
    rw [if_neg (show ¬ ((L.length : Int) : Int) ≤ 1048576 by omega)]
    go_wp2
    go_ret
    exact ⟨rfl, ((Same.refl w).alloc _).trans hs1⟩
end Go.Proofs.Ythelclibokkdnaa
