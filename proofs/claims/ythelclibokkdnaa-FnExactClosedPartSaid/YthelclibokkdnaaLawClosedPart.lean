/-
  FnExactClosedPart: for all books the program's closed part is the reference's, the books are left as they were and share nothing with the answer. No condition.
-/
import Derived.Test.YthelclibokkdnaaClosedPart
import Derived.Test.YthelclibokkdnaaLedgerMark
import Derived.Deep.RegionHeld3
namespace Go.Proofs.Ythelclibokkdnaa
open Go.RowKit

set_option maxHeartbeats 4000000 in
theorem lawClosedPart (Ab0 : Option Addr) (cb0 : Nat) (b0 : List TPosting) (b1 : Int) (w : World) (hzb0 : b0.length ≤ 9223372036854775807) (hAb0 : AtPosting w Ab0 b0) :
    Calls Try.prog 15 #[.agg #[.slice Ab0 b0.length cb0, .int .i64 b1]] w fun e w' => e = .returned (.bool true) ∧ Same w w' := by
  by_cases hl : ((b0.length : Int) : Int) ≤ 1048576
  · obtain ⟨R, hR⟩ : ∃ R, R = closedPart b0 b1 := ⟨_, rfl⟩
    have hlR : R.length ≤ 600000 := by rw [hR]; exact closedPart_len b0 b1
    have hzR : R.length ≤ 9223372036854775807 := by omega
    have HR := Lib.hid hR
    clear hR
    have hlb0 : b0.length ≤ 1048576 := by omega
    go_enter Try.func15, Try.ntmps15
    go_wp2_with fail
    have ha := BoxAt.new w 43 [.slice Ab0 b0.length cb0, .int .i64 b1]
    have hs0 := (Same.refl w).alloc (.cells #[.slice Ab0 b0.length cb0, .int .i64 b1] 43)
    have m0 : w.heap.size < (w.alloc (.cells #[.slice Ab0 b0.length cb0, .int .i64 b1] 43)).heap.size := by simp
    generalize w.alloc (.cells #[.slice Ab0 b0.length cb0, .int .i64 b1] 43) = w0 at *
    have n0 := hs0.size
    have S0 : Same w w0 := (Same.refl w).trans hs0
    clear hs0
    refine (szBooks_any Ab0 b0.length cb0 b1 1048576 _ hzb0 (by omega) (by omega)).mono ?_
    rintro e w1 ⟨rfl, hs1⟩
    replace ha := BoxAt.same ha hs1
    have n1 := hs1.size
    have S1 : Same w w1 := S0.trans hs1
    clear hs1 S0
    rw [if_pos hl]
    have ha_0 := ha.cell 0 rfl
    have ha_1 := ha.cell 1 rfl
    go_wp2_with fail
    refine (toBooks_any Ab0 cb0 b0 b1 _ hlb0 (hAb0.same S1)).mono ?_
    rintro e w2 ⟨Bb02, eb02, rfl, ho0b0, hs2⟩
    clear ha_0 ha_1
    have zho0b0 := Zn.of ho0b0
    replace ha := BoxAt.same ha hs2
    have n2 := hs2.size
    have S2 : Same w w2 := S1.trans hs2
    clear hs2 S1
    have ha_0 := ha.cell 0 rfl
    have ha_1 := ha.cell 1 rfl
    go_wp2_with fail
    refine (sClosedPart_any _ _ b0 b1 _ hzb0 (OwnR.recs cPosting_len ho0b0)).mono ?_
    rw [← HR.out]
    rintro e w3 ⟨AR3, cR3, rfl, hw, hs3⟩
    clear ha_0 ha_1
    have zhw := Zn.of hw
    replace ha := BoxAt.same ha hs3
    replace ho0b0 := OwnR.same ho0b0 hs3
    have n3 := hs3.size
    have S3 : Same w w3 := S2.trans hs3
    clear hs3 S2
    clear ho0b0 zho0b0
    have ha_0 := ha.cell 0 rfl
    have ha_1 := ha.cell 1 rfl
    go_wp2_with fail
    refine (toBooks_any Ab0 cb0 b0 b1 _ hlb0 (hAb0.same S3)).mono ?_
    rintro e w4 ⟨Bb04, eb04, rfl, hxb0, hs4⟩
    clear ha_0 ha_1
    have zhxb0 := Zn.of hxb0
    replace ha := BoxAt.same ha hs4
    replace hw := OwnR.same hw hs4
    have n4 := hs4.size
    have S4 : Same w w4 := S3.trans hs4
    clear hs4 S3
    have ha_0 := ha.cell 0 rfl
    have ha_1 := ha.cell 1 rfl
    go_wp2_with fail
    have hb := BoxAt.new w4 47 [.slice Bb04 b0.length eb04, .int .i64 b1]
    have hs5 := (Same.refl w4).alloc (.cells #[.slice Bb04 b0.length eb04, .int .i64 b1] 47)
    have m5 : w4.heap.size < (w4.alloc (.cells #[.slice Bb04 b0.length eb04, .int .i64 b1] 47)).heap.size := by simp
    generalize w4.alloc (.cells #[.slice Bb04 b0.length eb04, .int .i64 b1] 47) = w5 at *
    replace ha := BoxAt.same ha hs5
    replace hw := OwnR.same hw hs5
    replace hxb0 := OwnR.same hxb0 hs5
    have n5 := hs5.size
    have S5 : Same w w5 := S4.trans hs5
    clear hs5 S4
    refine (iClosedPart_any _ _ b0 b1 _ hzb0 (OwnR.recs cPosting_len hxb0)).mono ?_
    rw [← HR.out]
    rintro e w6 ⟨AR6, cR6, rfl, hg, hs6⟩
    clear ha_0 ha_1
    have zhg := Zn.of hg
    replace ha := BoxAt.same ha hs6
    replace hw := OwnR.same hw hs6
    replace hxb0 := OwnR.same hxb0 hs6
    replace hb := BoxAt.same hb hs6
    have n6 := hs6.size
    have S6 : Same w w6 := S5.trans hs6
    clear hs6 S5
    have ha_0 := ha.cell 0 rfl
    have ha_1 := ha.cell 1 rfl
    have hb_0 := hb.cell 0 rfl
    have hb_1 := hb.cell 1 rfl
    go_wp2_with fail
    refine (eqPostingS_any _ _ _ _ R R _ hzR hzR (OwnR.recs cPosting_len hg) (OwnR.recs cPosting_len hw)).mono ?_
    rintro e w7 ⟨rfl, hs7⟩
    clear ha_0 ha_1 hb_0 hb_1
    replace ha := BoxAt.same ha hs7
    replace hw := OwnR.same hw hs7
    replace hxb0 := OwnR.same hxb0 hs7
    replace hb := BoxAt.same hb hs7
    replace hg := OwnR.same hg hs7
    have n7 := hs7.size
    have S7 : Same w w7 := S6.trans hs7
    clear hs7 S6
    rw [decide_eq_true rfl]
    have ha_0 := ha.cell 0 rfl
    have ha_1 := ha.cell 1 rfl
    have hb_0 := hb.cell 0 rfl
    have hb_1 := hb.cell 1 rfl
    go_wp2_with fail
    go_region_held3 (fun w' => w'.cell? ⟨w.heap.size, 0, none⟩ = some (.slice Ab0 b0.length cb0) ∧ w'.cell? ⟨w.heap.size, 1, none⟩ = some (.int .i64 b1) ∧ w'.cell? ⟨w4.heap.size, 0, none⟩ = some (.slice Bb04 b0.length eb04) ∧ w'.cell? ⟨w4.heap.size, 1, none⟩ = some (.int .i64 b1))
      (first | exact ⟨ha_0, ha_1, hb_0, hb_1⟩ | exact ⟨(ha.same ((Same.refl _).drew.trans hs8)).cell 0 rfl, (ha.same ((Same.refl _).drew.trans hs8)).cell 1 rfl, (hb.same ((Same.refl _).drew.trans hs8)).cell 0 rfl, (hb.same ((Same.refl _).drew.trans hs8)).cell 1 rfl⟩ | exact ⟨(ha.same (((Same.refl _).drew.trans hs8).trans hs9)).cell 0 rfl, (ha.same (((Same.refl _).drew.trans hs8).trans hs9)).cell 1 rfl, (hb.same (((Same.refl _).drew.trans hs8).trans hs9)).cell 0 rfl, (hb.same (((Same.refl _).drew.trans hs8).trans hs9)).cell 1 rfl⟩)
      (first
        | (go_at_call 29; refine (toBooks_any Ab0 cb0 b0 b1 _ hlb0 (hAb0.same S7.drew)).mono ?_; rintro e w8 ⟨Bb08, eb08, rfl, hqb0, hs8⟩)
        | (go_at_call 31; refine (eqBooks_any _ _ _ _ b0 b0 b1 b1 _ hzb0 hzb0 (OwnR.recs cPosting_len (OwnR.same hxb0 ((Same.refl _).drew.trans hs8))) (OwnR.recs cPosting_len hqb0)).mono ?_; rintro e w9 ⟨rfl, hs9⟩; rw [show (decide (b0 = b0) && decide (b1 = b1)) = true by simp]))
    have hsr := (((Same.refl _).drew.trans hs8).trans hs9)
    clear ha_0 ha_1 hb_0 hb_1
    clear hs8 hs9 hqb0
    replace ha := BoxAt.same ha hsr
    replace hw := OwnR.same hw hsr
    replace hxb0 := OwnR.same hxb0 hsr
    replace hb := BoxAt.same hb hsr
    replace hg := OwnR.same hg hsr
    have n9 := hsr.size
    have S9 : Same w w9 := S7.trans hsr
    clear hsr S7
    have ha_0 := ha.cell 0 rfl
    have ha_1 := ha.cell 1 rfl
    have hb_0 := hb.cell 0 rfl
    have hb_1 := hb.cell 1 rfl
    go_wp2_with fail
    refine (markBooks_any _ _ _ b0 b1 1 _ _ rfl (by omega) (by omega) (by omega) hxb0 zhxb0).mono ?_
    rintro e w10 ⟨rfl, hx9, hs10⟩
    clear ha_0 ha_1 hb_0 hb_1
    replace ha := BoxAt.upd ha hs10 (.inl (by omega))
    replace hw := OwnR.upd hw hs10 zhw (.inl (by omega))
    replace hb := BoxAt.upd hb hs10 (.inr (by omega))
    replace hg := OwnR.upd hg hs10 zhg (.inr (by omega))
    have n10 := hs10.size
    have S10 : Same w w10 := S9.upds hs10 (by omega)
    clear hs10 S9
    clear hxb0
    clear hx9 zhxb0
    have ha_0 := ha.cell 0 rfl
    have ha_1 := ha.cell 1 rfl
    have hb_0 := hb.cell 0 rfl
    have hb_1 := hb.cell 1 rfl
    go_wp2_with fail
    refine (eqPostingS_any _ _ _ _ R R _ hzR hzR (OwnR.recs cPosting_len hg) (OwnR.recs cPosting_len hw)).mono ?_
    rintro e w11 ⟨rfl, hs11⟩
    clear ha_0 ha_1 hb_0 hb_1
    replace ha := BoxAt.same ha hs11
    replace hw := OwnR.same hw hs11
    replace hb := BoxAt.same hb hs11
    replace hg := OwnR.same hg hs11
    have n11 := hs11.size
    have S11 : Same w w11 := S10.trans hs11
    clear hs11 S10
    rw [decide_eq_true rfl]
    have ha_0 := ha.cell 0 rfl
    have ha_1 := ha.cell 1 rfl
    have hb_0 := hb.cell 0 rfl
    have hb_1 := hb.cell 1 rfl
    go_wp2_with fail
    refine (markPostingS_any _ _ _ R 1 _ _ rfl (by omega) (by omega) (by omega) hg zhg).mono ?_
    rintro e w12 ⟨rfl, hg9, hs12⟩
    clear ha_0 ha_1 hb_0 hb_1
    replace ha := BoxAt.upd ha hs12 (.inl (by omega))
    replace hw := OwnR.upd hw hs12 zhw (.inl (by omega))
    replace hb := BoxAt.upd hb hs12 (.inl (by omega))
    have n12 := hs12.size
    have S12 : Same w w12 := S11.upds hs12 (by omega)
    clear hs12 S11
    clear hg
    have ha_0 := ha.cell 0 rfl
    have ha_1 := ha.cell 1 rfl
    have hb_0 := hb.cell 0 rfl
    have hb_1 := hb.cell 1 rfl
    go_wp2_with fail
    refine (heldPostingS_any _ _ _ 1 _ (by omega) (by omega) (by omega) (OwnR.recs cPosting_len hg9)).mono ?_
    rintro e w13 ⟨rfl, hs13⟩
    clear ha_0 ha_1 hb_0 hb_1
    replace ha := BoxAt.same ha hs13
    replace hw := OwnR.same hw hs13
    replace hb := BoxAt.same hb hs13
    replace hg9 := OwnR.same hg9 hs13
    have n13 := hs13.size
    have S13 : Same w w13 := S12.trans hs13
    clear hs13 S12
    have hq : ((1 + (4 * (R.length : Int))) != (1 + (4 * (R.length : Int)))) = false := by simp
    have ha_0 := ha.cell 0 rfl
    have ha_1 := ha.cell 1 rfl
    have hb_0 := hb.cell 0 rfl
    have hb_1 := hb.cell 1 rfl
    go_wp2_with fail
    refine (toBooks_any Ab0 cb0 b0 b1 _ hlb0 (hAb0.same S13)).mono ?_
    rintro e w14 ⟨Bb014, eb014, rfl, ho2b0, hs14⟩
    clear ha_0 ha_1 hb_0 hb_1
    have zho2b0 := Zn.of ho2b0
    replace ha := BoxAt.same ha hs14
    replace hw := OwnR.same hw hs14
    replace hb := BoxAt.same hb hs14
    replace hg9 := OwnR.same hg9 hs14
    have n14 := hs14.size
    have S14 : Same w w14 := S13.trans hs14
    clear hs14 S13
    have ha_0 := ha.cell 0 rfl
    have ha_1 := ha.cell 1 rfl
    have hb_0 := hb.cell 0 rfl
    have hb_1 := hb.cell 1 rfl
    go_wp2_with fail
    refine (iClosedPart_any _ _ b0 b1 _ hzb0 (OwnR.recs cPosting_len ho2b0)).mono ?_
    rw [← HR.out]
    rintro e w15 ⟨AR15, cR15, rfl, hh, hs15⟩
    clear ha_0 ha_1 hb_0 hb_1
    have zhh := Zn.of hh
    replace ha := BoxAt.same ha hs15
    replace hw := OwnR.same hw hs15
    replace hb := BoxAt.same hb hs15
    replace hg9 := OwnR.same hg9 hs15
    replace ho2b0 := OwnR.same ho2b0 hs15
    have n15 := hs15.size
    have S15 : Same w w15 := S14.trans hs15
    clear hs15 S14
    clear ho2b0 zho2b0
    have ha_0 := ha.cell 0 rfl
    have ha_1 := ha.cell 1 rfl
    have hb_0 := hb.cell 0 rfl
    have hb_1 := hb.cell 1 rfl
    go_wp2_with fail
    refine (eqPostingS_any _ _ _ _ R R _ hzR hzR (OwnR.recs cPosting_len hh) (OwnR.recs cPosting_len hw)).mono ?_
    rintro e w16 ⟨rfl, hs16⟩
    clear ha_0 ha_1 hb_0 hb_1
    replace ha := BoxAt.same ha hs16
    replace hw := OwnR.same hw hs16
    replace hb := BoxAt.same hb hs16
    replace hg9 := OwnR.same hg9 hs16
    replace hh := OwnR.same hh hs16
    have n16 := hs16.size
    have S16 : Same w w16 := S15.trans hs16
    clear hs16 S15
    rw [decide_eq_true rfl]
    clear hh zhh
    clear hw zhw
    have ha_0 := ha.cell 0 rfl
    have ha_1 := ha.cell 1 rfl
    have hb_0 := hb.cell 0 rfl
    have hb_1 := hb.cell 1 rfl
    go_wp2_with fail
    refine (heldPostingS_any _ _ _ 1 _ (by omega) (by omega) (by omega) (OwnR.recs cPosting_len hg9)).mono ?_
    rintro e w17 ⟨rfl, hs17⟩
    clear ha_0 ha_1 hb_0 hb_1
    replace ha := BoxAt.same ha hs17
    replace hb := BoxAt.same hb hs17
    replace hg9 := OwnR.same hg9 hs17
    have n17 := hs17.size
    have S17 : Same w w17 := S16.trans hs17
    clear hs17 S16
    have ha_0 := ha.cell 0 rfl
    have ha_1 := ha.cell 1 rfl
    have hb_0 := hb.cell 0 rfl
    have hb_1 := hb.cell 1 rfl
    go_wp2_with fail
    go_ret
    exact ⟨rfl, S17⟩
  · go_enter Try.func15, Try.ntmps15
    go_wp2_with fail
    refine (szBooks_any Ab0 b0.length cb0 b1 1048576 _ hzb0 (by omega) (by omega)).mono ?_
    rintro e w1 ⟨rfl, hs1⟩
    rw [if_neg (show ¬ ((b0.length : Int) : Int) ≤ 1048576 by omega)]
    go_wp2
    go_ret
    exact ⟨rfl, ((Same.refl w).alloc _).trans hs1⟩
end Go.Proofs.Ythelclibokkdnaa
