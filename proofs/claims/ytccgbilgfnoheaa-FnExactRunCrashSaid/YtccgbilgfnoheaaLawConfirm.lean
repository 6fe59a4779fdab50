/-
  FnExactConfirm: for every run and bank the program's Confirm and the reference's hand back the same run, in memory of its own, and the arguments are left as they were. No condition.
-/
import Derived.Test.YtccgbilgfnoheaaConfirm2
import Derived.Test.YtccgbilgfnoheaaConfirmS
import Derived.Test.YtccgbilgfnoheaaOnly
import Derived.Deep.Cut
import Derived.Deep.CutRange
namespace Go.Proofs.Ytccgbilgfnoheaa
open Go.RowKit
set_option linter.unusedVariables false

theorem OwnR.nil_cap {T : Type} {e : TypeId} {s : Nat} {cells : T → List Value} {w : World} {base n c : Nat} {A : Option Addr} {L : List T} (h : OwnR e s cells w base (.slice A n c) L) : A = none → c = 0 := fun hA => by
  subst hA
  rcases h.2 with ⟨hv, _⟩ | ⟨g', cap, cur, hv, _⟩
  · injection hv
  · injection hv with hv _ _; cases hv

theorem bank_len {K C : List Int} (h : bankOk K C = true) : K.length ≤ 2000 := by
  simp only [bankOk, Bool.and_eq_true, decide_eq_true_eq] at h
  exact h.1.2

set_option maxRecDepth 10000 in
set_option maxHeartbeats 8000000 in
theorem lawConfirm (r0 : Int) (Ar1 : Option Addr) (cr1 : Nat) (r1 : List TItem) (Ab0 : Option Addr) (cb0 : Nat) (b0 : List Int) (Ab1 : Option Addr) (cb1 : Nat) (b1 : List Int) (w : World) (hzr1 : r1.length ≤ 9223372036854775807) (hAr1 : AtItem w Ar1 r1) (hzb0 : b0.length ≤ 9223372036854775807) (hAb0 : IntsAt w Ab0 b0) (hwb0 : Wide b0) (hzb1 : b1.length ≤ 9223372036854775807) (hAb1 : IntsAt w Ab1 b1) (hwb1 : Wide b1) :
    Calls Try.prog 13 #[.agg #[.int .i64 r0, .slice Ar1 r1.length cr1], .agg #[.slice Ab0 b0.length cb0, .slice Ab1 b1.length cb1]] w fun e w' => e = .returned (.bool true) ∧ Same w w' := by
  by_cases hl0 : (r1.length : Int) ≤ 1048576
  · by_cases hl1 : (b0.length : Int) + (b1.length : Int) ≤ 1048576 - (r1.length : Int)
    · obtain ⟨R0, hR0⟩ : ∃ R0, R0 = confirm r0 r1 b0 b1 := ⟨_, rfl⟩
      have hlR0 : R0.length ≤ 1100000 := by rw [hR0]; exact (by rw [confirm_len]; omega)
      have hzR0 : R0.length ≤ 9223372036854775807 := by omega
      have HR0 := Lib.hid hR0
      clear hR0
      go_enter Try.func13, Try.ntmps13
      go_wp2_with fail
      have har : BoxAt ((w.alloc (.cells #[.int .i64 r0, .slice Ar1 r1.length cr1] 49)).alloc (.cells #[.slice Ab0 b0.length cb0, .slice Ab1 b1.length cb1] 42)) (w.heap.size) 49 [.int .i64 r0, .slice Ar1 r1.length cr1] := by simpa using (BoxAt.alloc (BoxAt.new w 49 [.int .i64 r0, .slice Ar1 r1.length cr1]) (.cells #[.slice Ab0 b0.length cb0, .slice Ab1 b1.length cb1] 42))
      have hab : BoxAt ((w.alloc (.cells #[.int .i64 r0, .slice Ar1 r1.length cr1] 49)).alloc (.cells #[.slice Ab0 b0.length cb0, .slice Ab1 b1.length cb1] 42)) (w.heap.size + 1) 42 [.slice Ab0 b0.length cb0, .slice Ab1 b1.length cb1] := by simpa using (BoxAt.new (w.alloc (.cells #[.int .i64 r0, .slice Ar1 r1.length cr1] 49)) 42 [.slice Ab0 b0.length cb0, .slice Ab1 b1.length cb1])
      have hs0 := (Same.alloc (Same.alloc (Same.refl w) (.cells #[.int .i64 r0, .slice Ar1 r1.length cr1] 49)) (.cells #[.slice Ab0 b0.length cb0, .slice Ab1 b1.length cb1] 42))
      have m0 : w.heap.size + 2 ≤ ((w.alloc (.cells #[.int .i64 r0, .slice Ar1 r1.length cr1] 49)).alloc (.cells #[.slice Ab0 b0.length cb0, .slice Ab1 b1.length cb1] 42)).heap.size := by simp
      generalize ((w.alloc (.cells #[.int .i64 r0, .slice Ar1 r1.length cr1] 49)).alloc (.cells #[.slice Ab0 b0.length cb0, .slice Ab1 b1.length cb1] 42)) = w0 at *
      have n0 := Same.size hs0
      have S0 : Same w w0 := Same.trans (Same.refl w) hs0
      clear hs0
      refine (szRun_any r0 Ar1 r1.length cr1 1048576 _ hzr1 (by omega) (by omega)).mono ?_
      rintro e w1 ⟨rfl, hs1⟩
      replace har := BoxAt.same har hs1
      replace hab := BoxAt.same hab hs1
      have n1 := Same.size hs1
      have S1 : Same w w1 := Same.trans S0 hs1
      clear hs1 S0
      rw [if_pos hl0]
      have har_0 := har.cell 0 rfl
      have har_1 := har.cell 1 rfl
      have hab_0 := hab.cell 0 rfl
      have hab_1 := hab.cell 1 rfl
      go_wp2_with fail
      refine (szBank_any Ab0 b0.length cb0 Ab1 b1.length cb1 (1048576 - (r1.length : Int)) _ hzb0 hzb1 (by omega) (by omega)).mono ?_
      rintro e w2 ⟨rfl, hs2⟩
      clear har_0 har_1 hab_0 hab_1
      replace har := BoxAt.same har hs2
      replace hab := BoxAt.same hab hs2
      have n2 := Same.size hs2
      have S2 : Same w w2 := Same.trans S1 hs2
      clear hs2 S1
      rw [if_pos hl1]
      have hlr1 : r1.length ≤ 1048576 := by omega
      have hlb0 : b0.length ≤ 1048576 := by omega
      have hlb1 : b1.length ≤ 1048576 := by omega
      have har_0 := har.cell 0 rfl
      have har_1 := har.cell 1 rfl
      have hab_0 := hab.cell 0 rfl
      have hab_1 := hab.cell 1 rfl
      go_wp2_with fail
      have keepL : ∀ x : World, Same w2 x → Same w2 x ∧ x.cell? ⟨(w.heap.size), 0, none⟩ = some (.int .i64 r0) ∧ x.cell? ⟨(w.heap.size), 1, none⟩ = some (.slice Ar1 r1.length cr1) ∧ x.cell? ⟨(w.heap.size + 1), 0, none⟩ = some (.slice Ab0 b0.length cb0) ∧ x.cell? ⟨(w.heap.size + 1), 1, none⟩ = some (.slice Ab1 b1.length cb1) := fun x h => ⟨h, (BoxAt.same har h).cell 0 rfl, (BoxAt.same har h).cell 1 rfl, (BoxAt.same hab h).cell 0 rfl, (BoxAt.same hab h).cell 1 rfl⟩
      go_upto_region 8 with (fail)
      go_cut [6] from 24 to 28 (fun t6 wx => ∃ (g : Nat) (Aw_R0 : Option Addr) (cw_R0 : Nat), t6 = .pointer (some ⟨g, 0, none⟩) ∧ BoxAt wx g 26 [.int .i64 r0, .slice Aw_R0 R0.length cw_R0] ∧ OwnItem wx w2.heap.size (.slice Aw_R0 R0.length cw_R0) R0 ∧ Value.ownBlock (.slice Aw_R0 R0.length cw_R0) ≠ some g ∧ w2.heap.size ≤ g ∧ Same w2 wx)
      case first =>
        go_region_held3 (fun x => Same w2 x ∧ x.cell? ⟨(w.heap.size), 0, none⟩ = some (.int .i64 r0) ∧ x.cell? ⟨(w.heap.size), 1, none⟩ = some (.slice Ar1 r1.length cr1) ∧ x.cell? ⟨(w.heap.size + 1), 0, none⟩ = some (.slice Ab0 b0.length cb0) ∧ x.cell? ⟨(w.heap.size + 1), 1, none⟩ = some (.slice Ab1 b1.length cb1))
          (first | exact keepL _ (Same.refl _) | exact keepL _ (Same.refl _).drew | exact keepL _ (Same.alloc (Same.refl _) _) | exact keepL _ (Same.alloc (Same.refl _) _).drew | exact keepL _ (Same.alloc (Same.refl _).drew _) | (go_split_ands; apply keepL; first | assumption | exact Same.trans (by assumption) hsq1_0 | exact Same.trans (by assumption) hsq1_1 | exact Same.trans (by assumption) hsq1 | exact Same.alloc (by assumption) _ | exact Same.alloc S2q1 _ | exact (Same.setCell (Same.setCell S2q1 nnq1_0 _) nnq1_0 _) | exact (Same.setCell (Same.setCell S2q1 nnq1_1 _) nnq1_1 _) | exact (Same.setCell (Same.setCell S2q1 (Nat.le_refl _) _) (Nat.le_refl _) _)))
          (first | (go_split_ands; go_at_call 31; refine (toRun_any r0 Ar1 cr1 r1 _ hlr1 (hAr1.same (Same.trans S2 (by assumption)))).mono ?_; rintro e wq1_0 ⟨Br1q1_0, er1q1_0, rfl, hq1_0_r1, hsq1_0⟩; (have nnq1_0 : w2.heap.size ≤ wq1_0.heap.size := Same.size (Same.trans (by assumption) hsq1_0))) | (go_split_ands; go_at_call 27; refine (toBank_any Ab0 cb0 b0 Ab1 cb1 b1 _ hlb0 (hAb0.same (Same.trans S2 (by assumption))) hlb1 (hAb1.same (Same.trans S2 (by assumption)))).mono ?_; rintro e wq1_1 ⟨Bb0q1_1, eb0q1_1, Bb1q1_1, eb1q1_1, rfl, hq1_1_b0, hq1_1_b1, spq1_1, hsq1_1⟩; (have nnq1_1 : w2.heap.size ≤ wq1_1.heap.size := Same.size (Same.trans (by assumption) hsq1_1))) | (go_split_ands; go_at_call 47; refine ((sConfirm_any r0 _ _ r1 _ _ b0 _ _ b1 _ (by omega) (OwnR.nil_cap (by first | exact (OwnR.same hq1_0_r1 hsq1_1) | exact (OwnR.alloc (OwnR.same hq1_0_r1 hsq1_1) _) | exact (OwnR.same (OwnR.alloc hq1_0_r1 _) hsq1_1))) (OwnR.recs cItem_len (by first | exact (OwnR.same hq1_0_r1 hsq1_1) | exact (OwnR.alloc (OwnR.same hq1_0_r1 hsq1_1) _) | exact (OwnR.same (OwnR.alloc hq1_0_r1 _) hsq1_1))) hzb0 (OwnI.cap (by first | exact hq1_1_b0 | exact (OwnI.alloc hq1_1_b0 _))) (OwnI.ints (by first | exact hq1_1_b0 | exact (OwnI.alloc hq1_1_b0 _))) hzb1 (OwnI.ints (by first | exact hq1_1_b1 | exact (OwnI.alloc hq1_1_b1 _))))).mono ?_; rw [← HR0.out]; rintro e wq1 ⟨Aw_R0, cw_R0, rfl, w_R0, hsq1⟩; (have S2q1 : Same w2 wq1 := Same.trans (by assumption) hsq1); (have vw_R0 := OwnR.rebase w_R0 (show w2.heap.size ≤ _ from Same.size (by assumption))); (first | (have zb : BoxAt wq1 wq1_1.heap.size 26 [.int .i64 0, .slice none 0 0] := (BoxAt.same (BoxAt.new wq1_1 26 [.int .i64 0, .slice none 0 0]) hsq1); have zc0 := zb.cell 0 rfl; have zf0 := zb.frozen 0; have zc1 := zb.cell 1 rfl; have zf1 := zb.frozen 1; have zg : w2.heap.size ≤ wq1_1.heap.size := nnq1_1; have zlR0 : ∀ b, Value.ownBlock (.slice Aw_R0 R0.length cw_R0) = some b → wq1_1.heap.size < b := fun b hb => by have y0 := (owns_new w_R0 b hb).1; have y1 := Same.size hsq1_0; have y2 := Same.size hsq1_1; (try simp at y0); (try simp at y1); (try simp at y2); omega) | (have zb : BoxAt wq1 wq1_0.heap.size 26 [.int .i64 0, .slice none 0 0] := (BoxAt.same (BoxAt.same (BoxAt.new wq1_0 26 [.int .i64 0, .slice none 0 0]) hsq1_1) hsq1); have zc0 := zb.cell 0 rfl; have zf0 := zb.frozen 0; have zc1 := zb.cell 1 rfl; have zf1 := zb.frozen 1; have zg : w2.heap.size ≤ wq1_0.heap.size := nnq1_0; have zlR0 : ∀ b, Value.ownBlock (.slice Aw_R0 R0.length cw_R0) = some b → wq1_0.heap.size < b := fun b hb => by have y0 := (owns_new w_R0 b hb).1; have y1 := Same.size hsq1_0; have y2 := Same.size hsq1_1; (try simp at y0); (try simp at y1); (try simp at y2); omega) | (have zb : BoxAt wq1 w2.heap.size 26 [.int .i64 0, .slice none 0 0] := (BoxAt.same (BoxAt.same (BoxAt.same (BoxAt.same (BoxAt.new w2 26 [.int .i64 0, .slice none 0 0]) (Same.refl _).drew) hsq1_0) hsq1_1) hsq1); have zc0 := zb.cell 0 rfl; have zf0 := zb.frozen 0; have zc1 := zb.cell 1 rfl; have zf1 := zb.frozen 1; have zg : w2.heap.size ≤ w2.heap.size := Nat.le_refl _; have zlR0 : ∀ b, Value.ownBlock (.slice Aw_R0 R0.length cw_R0) = some b → w2.heap.size < b := fun b hb => by have y0 := (owns_new w_R0 b hb).1; have y1 := Same.size hsq1_0; have y2 := Same.size hsq1_1; (try simp at y0); (try simp at y1); (try simp at y2); omega) | skip)))
        all_goals go_wp2_with fail
        all_goals go_meet
        all_goals first | exact ⟨_, Aw_R0, cw_R0, rfl, BoxAt.new wq1 26 [.int .i64 r0, .slice Aw_R0 R0.length cw_R0], OwnR.alloc vw_R0 _, (fun e => by have := (owns_new w_R0 _ e).2; omega), S2q1.size, S2q1.alloc _⟩ | exact ⟨_, Aw_R0, cw_R0, rfl, (BoxAt.set (BoxAt.set zb 0 _) 1 _), (OwnR.upd (OwnR.upd vw_R0 (upd_setCell _ _ 0 _) (show Zn _ (_ + 1) wq1.heap.size from fun b hb => ⟨zlR0 b hb, (owns_new w_R0 b hb).2⟩) (.inr (Nat.le_refl _))) (upd_setCell _ _ 1 _) (show Zn _ (_ + 1) wq1.heap.size from fun b hb => ⟨zlR0 b hb, (owns_new w_R0 b hb).2⟩) (.inr (Nat.le_refl _))), (fun e => by have := zlR0 _ e; omega), zg, (Same.setCell (Same.setCell S2q1 zg _) zg _)⟩
      clear keepL har_0 har_1 hab_0 hab_1
      obtain ⟨gq1, Aw_R0, cw_R0, rfl, hw0, w_R0, new_R0, hgq1, hs3⟩ := hcut
      generalize wc = w3 at *
      have zw_R0 := Zn.of w_R0
      replace har := BoxAt.same har hs3
      replace hab := BoxAt.same hab hs3
      have n3 := Same.size hs3
      have S3 : Same w w3 := Same.trans S2 hs3
      clear hs3 S2
      have ltq1 := hw0.lt
      have har_0 := har.cell 0 rfl
      have har_1 := har.cell 1 rfl
      have hab_0 := hab.cell 0 rfl
      have hab_1 := hab.cell 1 rfl
      have hw0_0 := hw0.cell 0 rfl
      have hw0_1 := hw0.cell 1 rfl
      go_wp2_with fail
      refine (toRun_any r0 Ar1 cr1 r1 _ hlr1 (hAr1.same S3)).mono ?_
      rintro e w4 ⟨Br14, er14, rfl, hxr1, hs4⟩
      clear har_0 har_1 hab_0 hab_1 hw0_0 hw0_1
      have zhxr1 := Zn.of hxr1
      replace har := BoxAt.same har hs4
      replace hab := BoxAt.same hab hs4
      replace w_R0 := OwnR.same w_R0 hs4
      replace hw0 := BoxAt.same hw0 hs4
      have n4 := Same.size hs4
      have S4 : Same w w4 := Same.trans S3 hs4
      clear hs4 S3
      have hxr : BoxAt (w4.alloc (.cells #[.int .i64 r0, .slice Br14 r1.length er14] 26)) (w4.heap.size) 26 [.int .i64 r0, .slice Br14 r1.length er14] := by simpa using (BoxAt.new w4 26 [.int .i64 r0, .slice Br14 r1.length er14])
      have hs5 := (Same.alloc (Same.refl w4) (.cells #[.int .i64 r0, .slice Br14 r1.length er14] 26))
      have m5 : w4.heap.size + 1 ≤ (w4.alloc (.cells #[.int .i64 r0, .slice Br14 r1.length er14] 26)).heap.size := by simp
      replace har := BoxAt.same har hs5
      replace hab := BoxAt.same hab hs5
      replace w_R0 := OwnR.same w_R0 hs5
      replace hw0 := BoxAt.same hw0 hs5
      replace hxr1 := OwnR.same hxr1 hs5
      have har_0 := har.cell 0 rfl
      have har_1 := har.cell 1 rfl
      have hab_0 := hab.cell 0 rfl
      have hab_1 := hab.cell 1 rfl
      have hw0_0 := hw0.cell 0 rfl
      have hw0_1 := hw0.cell 1 rfl
      have hxr_0 := hxr.cell 0 rfl
      have hxr_1 := hxr.cell 1 rfl
      go_wp2_with fail
      generalize (w4.alloc (.cells #[.int .i64 r0, .slice Br14 r1.length er14] 26)) = w5 at *
      have n5 := Same.size hs5
      have S5 : Same w w5 := Same.trans S4 hs5
      clear hs5 S4
      refine (toBank_any Ab0 cb0 b0 Ab1 cb1 b1 _ hlb0 (hAb0.same S5) hlb1 (hAb1.same S5)).mono ?_
      rintro e w6 ⟨Bb06, eb06, Bb16, eb16, rfl, hxb0, hxb1, sp6, hs6⟩
      clear har_0 har_1 hab_0 hab_1 hw0_0 hw0_1 hxr_0 hxr_1
      have zhxb0 := Zn.of hxb0
      have zhxb1 := Zn.of hxb1
      replace har := BoxAt.same har hs6
      replace hab := BoxAt.same hab hs6
      replace w_R0 := OwnR.same w_R0 hs6
      replace hw0 := BoxAt.same hw0 hs6
      replace hxr1 := OwnR.same hxr1 hs6
      replace hxr := BoxAt.same hxr hs6
      have n6 := Same.size hs6
      have S6 : Same w w6 := Same.trans S5 hs6
      clear hs6 S5
      have hxb : BoxAt (w6.alloc (.cells #[.slice Bb06 b0.length eb06, .slice Bb16 b1.length eb16] 29)) (w6.heap.size) 29 [.slice Bb06 b0.length eb06, .slice Bb16 b1.length eb16] := by simpa using (BoxAt.new w6 29 [.slice Bb06 b0.length eb06, .slice Bb16 b1.length eb16])
      have hs7 := (Same.alloc (Same.refl w6) (.cells #[.slice Bb06 b0.length eb06, .slice Bb16 b1.length eb16] 29))
      have m7 : w6.heap.size + 1 ≤ (w6.alloc (.cells #[.slice Bb06 b0.length eb06, .slice Bb16 b1.length eb16] 29)).heap.size := by simp
      replace har := BoxAt.same har hs7
      replace hab := BoxAt.same hab hs7
      replace w_R0 := OwnR.same w_R0 hs7
      replace hw0 := BoxAt.same hw0 hs7
      replace hxr1 := OwnR.same hxr1 hs7
      replace hxr := BoxAt.same hxr hs7
      replace hxb0 := OwnI.same hxb0 hs7
      replace hxb1 := OwnI.same hxb1 hs7
      have har_0 := har.cell 0 rfl
      have har_1 := har.cell 1 rfl
      have hab_0 := hab.cell 0 rfl
      have hab_1 := hab.cell 1 rfl
      have hw0_0 := hw0.cell 0 rfl
      have hw0_1 := hw0.cell 1 rfl
      have hxr_0 := hxr.cell 0 rfl
      have hxr_1 := hxr.cell 1 rfl
      have hxb_0 := hxb.cell 0 rfl
      have hxb_1 := hxb.cell 1 rfl
      go_wp2_with fail
      generalize (w6.alloc (.cells #[.slice Bb06 b0.length eb06, .slice Bb16 b1.length eb16] 29)) = w7 at *
      have n7 := Same.size hs7
      have S7 : Same w w7 := Same.trans S6 hs7
      clear hs7 S6
      refine ((iConfirm_any r0 _ _ r1 _ _ b0 _ _ b1 _ (by omega) (OwnR.cap hxr1) (OwnR.recs cItem_len hxr1) hzb0 (OwnI.ints hxb0) hwb0 hzb1 (OwnI.ints hxb1))).mono ?_
      rw [← HR0.out]
      rintro e w8 ⟨Ag_R0, cg_R0, rfl, g_R0, hs8⟩
      clear har_0 har_1 hab_0 hab_1 hw0_0 hw0_1 hxr_0 hxr_1 hxb_0 hxb_1
      have zg_R0 := Zn.of g_R0
      replace har := BoxAt.same har hs8
      replace hab := BoxAt.same hab hs8
      replace w_R0 := OwnR.same w_R0 hs8
      replace hw0 := BoxAt.same hw0 hs8
      replace hxr1 := OwnR.same hxr1 hs8
      replace hxr := BoxAt.same hxr hs8
      replace hxb0 := OwnI.same hxb0 hs8
      replace hxb1 := OwnI.same hxb1 hs8
      replace hxb := BoxAt.same hxb hs8
      have n8 := Same.size hs8
      have S8 : Same w w8 := Same.trans S7 hs8
      clear hs8 S7
      have hg0 : BoxAt (w8.alloc (.cells #[.int .i64 r0, .slice Ag_R0 R0.length cg_R0] 26)) (w8.heap.size) 26 [.int .i64 r0, .slice Ag_R0 R0.length cg_R0] := by simpa using (BoxAt.new w8 26 [.int .i64 r0, .slice Ag_R0 R0.length cg_R0])
      have hs9 := (Same.alloc (Same.refl w8) (.cells #[.int .i64 r0, .slice Ag_R0 R0.length cg_R0] 26))
      have m9 : w8.heap.size + 1 ≤ (w8.alloc (.cells #[.int .i64 r0, .slice Ag_R0 R0.length cg_R0] 26)).heap.size := by simp
      replace har := BoxAt.same har hs9
      replace hab := BoxAt.same hab hs9
      replace w_R0 := OwnR.same w_R0 hs9
      replace hw0 := BoxAt.same hw0 hs9
      replace hxr1 := OwnR.same hxr1 hs9
      replace hxr := BoxAt.same hxr hs9
      replace hxb0 := OwnI.same hxb0 hs9
      replace hxb1 := OwnI.same hxb1 hs9
      replace hxb := BoxAt.same hxb hs9
      replace g_R0 := OwnR.same g_R0 hs9
      have har_0 := har.cell 0 rfl
      have har_1 := har.cell 1 rfl
      have hab_0 := hab.cell 0 rfl
      have hab_1 := hab.cell 1 rfl
      have hw0_0 := hw0.cell 0 rfl
      have hw0_1 := hw0.cell 1 rfl
      have hxr_0 := hxr.cell 0 rfl
      have hxr_1 := hxr.cell 1 rfl
      have hxb_0 := hxb.cell 0 rfl
      have hxb_1 := hxb.cell 1 rfl
      have hg0_0 := hg0.cell 0 rfl
      have hg0_1 := hg0.cell 1 rfl
      go_wp2_with fail
      generalize (w8.alloc (.cells #[.int .i64 r0, .slice Ag_R0 R0.length cg_R0] 26)) = w9 at *
      have n9 := Same.size hs9
      have S9 : Same w w9 := Same.trans S8 hs9
      clear hs9 S8
      refine (eqRun_any _ _ _ _ R0 R0 r0 r0 _ hzR0 hzR0 (OwnR.recs cItem_len g_R0) (OwnR.recs cItem_len w_R0)).mono ?_
      rintro e w10 ⟨rfl, hs10⟩
      clear har_0 har_1 hab_0 hab_1 hw0_0 hw0_1 hxr_0 hxr_1 hxb_0 hxb_1 hg0_0 hg0_1
      replace har := BoxAt.same har hs10
      replace hab := BoxAt.same hab hs10
      replace w_R0 := OwnR.same w_R0 hs10
      replace hw0 := BoxAt.same hw0 hs10
      replace hxr1 := OwnR.same hxr1 hs10
      replace hxr := BoxAt.same hxr hs10
      replace hxb0 := OwnI.same hxb0 hs10
      replace hxb1 := OwnI.same hxb1 hs10
      replace hxb := BoxAt.same hxb hs10
      replace g_R0 := OwnR.same g_R0 hs10
      replace hg0 := BoxAt.same hg0 hs10
      have n10 := Same.size hs10
      have S10 : Same w w10 := Same.trans S9 hs10
      clear hs10 S9
      rw [show (decide (R0 = R0) && decide (r0 = r0)) = true by simp]
      have har_0 := har.cell 0 rfl
      have har_1 := har.cell 1 rfl
      have hxr_0 := hxr.cell 0 rfl
      have hxr_1 := hxr.cell 1 rfl
      go_wp2_with fail
      go_region_held3 (fun w' => w'.cell? ⟨(w4.heap.size), 0, none⟩ = some (.int .i64 r0) ∧ w'.cell? ⟨(w4.heap.size), 1, none⟩ = some (.slice Br14 r1.length er14) ∧ w'.cell? ⟨(w.heap.size), 0, none⟩ = some (.int .i64 r0) ∧ w'.cell? ⟨(w.heap.size), 1, none⟩ = some (.slice Ar1 r1.length cr1))
        (first | exact ⟨(BoxAt.same hxr (Same.refl w10)).cell 0 rfl, (BoxAt.same hxr (Same.refl w10)).cell 1 rfl, (BoxAt.same har (Same.refl w10)).cell 0 rfl, (BoxAt.same har (Same.refl w10)).cell 1 rfl⟩ | exact ⟨(BoxAt.same hxr (Same.refl w10).drew).cell 0 rfl, (BoxAt.same hxr (Same.refl w10).drew).cell 1 rfl, (BoxAt.same har (Same.refl w10).drew).cell 0 rfl, (BoxAt.same har (Same.refl w10).drew).cell 1 rfl⟩ | exact ⟨(BoxAt.same hxr (Same.trans (Same.refl w10).drew hsq2_0)).cell 0 rfl, (BoxAt.same hxr (Same.trans (Same.refl w10).drew hsq2_0)).cell 1 rfl, (BoxAt.same har (Same.trans (Same.refl w10).drew hsq2_0)).cell 0 rfl, (BoxAt.same har (Same.trans (Same.refl w10).drew hsq2_0)).cell 1 rfl⟩ | exact ⟨(BoxAt.same hxr (Same.trans (Same.trans (Same.refl w10).drew hsq2_0) hsq2_1)).cell 0 rfl, (BoxAt.same hxr (Same.trans (Same.trans (Same.refl w10).drew hsq2_0) hsq2_1)).cell 1 rfl, (BoxAt.same har (Same.trans (Same.trans (Same.refl w10).drew hsq2_0) hsq2_1)).cell 0 rfl, (BoxAt.same har (Same.trans (Same.trans (Same.refl w10).drew hsq2_0) hsq2_1)).cell 1 rfl⟩)
        (first | (go_at_call 31; refine (toRun_any r0 Ar1 cr1 r1 _ hlr1 (hAr1.same (Same.trans S10 (Same.refl w10).drew))).mono ?_; rintro e wq2_0 ⟨Br1q2_0, er1q2_0, rfl, hq2_r1, hsq2_0⟩) | (go_at_call 32; refine (eqRun_any _ _ _ _ r1 r1 r0 r0 _ hzr1 hzr1 (OwnR.recs cItem_len (OwnR.same hxr1 (Same.trans (Same.refl w10).drew hsq2_0))) (OwnR.recs cItem_len hq2_r1)).mono ?_; rintro e w11 ⟨rfl, hsq2_1⟩; rw [show (decide (r1 = r1) && decide (r0 = r0)) = true by simp]))
      clear har_0 har_1 hxr_0 hxr_1
      have hs11 := (Same.trans (Same.trans (Same.refl w10).drew hsq2_0) hsq2_1)
      clear hsq2_0 hsq2_1 hq2_r1
      replace har := BoxAt.same har hs11
      replace hab := BoxAt.same hab hs11
      replace w_R0 := OwnR.same w_R0 hs11
      replace hw0 := BoxAt.same hw0 hs11
      replace hxr1 := OwnR.same hxr1 hs11
      replace hxr := BoxAt.same hxr hs11
      replace hxb0 := OwnI.same hxb0 hs11
      replace hxb1 := OwnI.same hxb1 hs11
      replace hxb := BoxAt.same hxb hs11
      replace g_R0 := OwnR.same g_R0 hs11
      replace hg0 := BoxAt.same hg0 hs11
      have n11 := Same.size hs11
      have S11 : Same w w11 := Same.trans S10 hs11
      clear hs11 S10
      have hab_0 := hab.cell 0 rfl
      have hab_1 := hab.cell 1 rfl
      have hxb_0 := hxb.cell 0 rfl
      have hxb_1 := hxb.cell 1 rfl
      go_wp2_with fail
      go_region_held3 (fun w' => w'.cell? ⟨(w6.heap.size), 0, none⟩ = some (.slice Bb06 b0.length eb06) ∧ w'.cell? ⟨(w6.heap.size), 1, none⟩ = some (.slice Bb16 b1.length eb16) ∧ w'.cell? ⟨(w.heap.size + 1), 0, none⟩ = some (.slice Ab0 b0.length cb0) ∧ w'.cell? ⟨(w.heap.size + 1), 1, none⟩ = some (.slice Ab1 b1.length cb1))
        (first | exact ⟨(BoxAt.same hxb (Same.refl w11)).cell 0 rfl, (BoxAt.same hxb (Same.refl w11)).cell 1 rfl, (BoxAt.same hab (Same.refl w11)).cell 0 rfl, (BoxAt.same hab (Same.refl w11)).cell 1 rfl⟩ | exact ⟨(BoxAt.same hxb (Same.refl w11).drew).cell 0 rfl, (BoxAt.same hxb (Same.refl w11).drew).cell 1 rfl, (BoxAt.same hab (Same.refl w11).drew).cell 0 rfl, (BoxAt.same hab (Same.refl w11).drew).cell 1 rfl⟩ | exact ⟨(BoxAt.same hxb (Same.trans (Same.refl w11).drew hsq3_0)).cell 0 rfl, (BoxAt.same hxb (Same.trans (Same.refl w11).drew hsq3_0)).cell 1 rfl, (BoxAt.same hab (Same.trans (Same.refl w11).drew hsq3_0)).cell 0 rfl, (BoxAt.same hab (Same.trans (Same.refl w11).drew hsq3_0)).cell 1 rfl⟩ | exact ⟨(BoxAt.same hxb (Same.trans (Same.trans (Same.refl w11).drew hsq3_0) hsq3_1)).cell 0 rfl, (BoxAt.same hxb (Same.trans (Same.trans (Same.refl w11).drew hsq3_0) hsq3_1)).cell 1 rfl, (BoxAt.same hab (Same.trans (Same.trans (Same.refl w11).drew hsq3_0) hsq3_1)).cell 0 rfl, (BoxAt.same hab (Same.trans (Same.trans (Same.refl w11).drew hsq3_0) hsq3_1)).cell 1 rfl⟩)
        (first | (go_at_call 27; refine (toBank_any Ab0 cb0 b0 Ab1 cb1 b1 _ hlb0 (hAb0.same (Same.trans S11 (Same.refl w11).drew)) hlb1 (hAb1.same (Same.trans S11 (Same.refl w11).drew))).mono ?_; rintro e wq3_0 ⟨Bb0q3_0, eb0q3_0, Bb1q3_0, eb1q3_0, rfl, hq3_b0, hq3_b1, spq3_0, hsq3_0⟩) | (go_at_call 28; refine (eqBank_any _ _ _ _ b0 b0 _ _ _ _ b1 b1  _ hzb0 hzb0 (OwnI.ints (OwnI.same hxb0 (Same.trans (Same.refl w11).drew hsq3_0))) (OwnI.ints hq3_b0) hzb1 hzb1 (OwnI.ints (OwnI.same hxb1 (Same.trans (Same.refl w11).drew hsq3_0))) (OwnI.ints hq3_b1)).mono ?_; rintro e w12 ⟨rfl, hsq3_1⟩; rw [show (decide (b0 = b0) && decide (b1 = b1)) = true by simp]))
      clear hab_0 hab_1 hxb_0 hxb_1
      have hs12 := (Same.trans (Same.trans (Same.refl w11).drew hsq3_0) hsq3_1)
      clear hsq3_0 hsq3_1 hq3_b0 hq3_b1 spq3_0
      replace har := BoxAt.same har hs12
      replace hab := BoxAt.same hab hs12
      replace w_R0 := OwnR.same w_R0 hs12
      replace hw0 := BoxAt.same hw0 hs12
      replace hxr1 := OwnR.same hxr1 hs12
      replace hxr := BoxAt.same hxr hs12
      replace hxb0 := OwnI.same hxb0 hs12
      replace hxb1 := OwnI.same hxb1 hs12
      replace hxb := BoxAt.same hxb hs12
      replace g_R0 := OwnR.same g_R0 hs12
      replace hg0 := BoxAt.same hg0 hs12
      have n12 := Same.size hs12
      have S12 : Same w w12 := Same.trans S11 hs12
      clear hs12 S11
      have har_0 := har.cell 0 rfl
      have har_1 := har.cell 1 rfl
      have hab_0 := hab.cell 0 rfl
      have hab_1 := hab.cell 1 rfl
      have hw0_0 := hw0.cell 0 rfl
      have hw0_1 := hw0.cell 1 rfl
      have hxr_0 := hxr.cell 0 rfl
      have hxr_1 := hxr.cell 1 rfl
      have hxb_0 := hxb.cell 0 rfl
      have hxb_1 := hxb.cell 1 rfl
      have hg0_0 := hg0.cell 0 rfl
      have hg0_1 := hg0.cell 1 rfl
      go_wp2_with fail
      refine (markRun_any r0 _ _ _ r1 1 _ _ rfl (by omega) (by omega) (by omega) hxr1).mono ?_
      rintro e w13 ⟨rfl, hx9r1, hu13⟩
      clear har_0 har_1 hab_0 hab_1 hw0_0 hw0_1 hxr_0 hxr_1 hxb_0 hxb_1 hg0_0 hg0_1
      replace har := Only1.box hu13 har (Zn.box zhxr1 (by omega))
      replace hab := Only1.box hu13 hab (Zn.box zhxr1 (by omega))
      replace w_R0 := Only1.owns hu13 w_R0 (Sep.symm (Sep.zn zw_R0 zhxr1 (by omega)))
      replace hw0 := Only1.box hu13 hw0 (Zn.box zhxr1 (by omega))
      replace hxr := Only1.box hu13 hxr (Zn.box zhxr1 (by omega))
      replace hxb0 := Only1.owns hu13 hxb0 (Sep.zn zhxr1 zhxb0 (by omega))
      replace hxb1 := Only1.owns hu13 hxb1 (Sep.zn zhxr1 zhxb1 (by omega))
      replace hxb := Only1.box hu13 hxb (Zn.box zhxr1 (by omega))
      replace g_R0 := Only1.owns hu13 g_R0 (Sep.zn zhxr1 zg_R0 (by omega))
      replace hg0 := Only1.box hu13 hg0 (Zn.box zhxr1 (by omega))
      have n13 := hu13.size
      have S13 : Same w w13 := Only1.same S12 hu13 (Zn.lo zhxr1 (by omega))
      clear hu13 S12 hxr1
      clear hx9r1 zhxr1
      clear hxr
      have har_0 := har.cell 0 rfl
      have har_1 := har.cell 1 rfl
      have hab_0 := hab.cell 0 rfl
      have hab_1 := hab.cell 1 rfl
      have hw0_0 := hw0.cell 0 rfl
      have hw0_1 := hw0.cell 1 rfl
      have hxb_0 := hxb.cell 0 rfl
      have hxb_1 := hxb.cell 1 rfl
      have hg0_0 := hg0.cell 0 rfl
      have hg0_1 := hg0.cell 1 rfl
      go_wp2_with fail
      refine (markBank_any _ _ _ b0 _ _ _ b1 (1 + 3 * (r1.length : Int)) _ _ _ rfl (by omega) rfl (by omega) (by omega) (by omega) hxb0 hxb1 sp6).mono ?_
      rintro e w14 ⟨rfl, hx9b0, hx9b1, hu14⟩
      clear har_0 har_1 hab_0 hab_1 hw0_0 hw0_1 hxb_0 hxb_1 hg0_0 hg0_1
      replace har := Only2.box hu14 har (Zn.box zhxb0 (by omega)) (Zn.box zhxb1 (by omega))
      replace hab := Only2.box hu14 hab (Zn.box zhxb0 (by omega)) (Zn.box zhxb1 (by omega))
      replace w_R0 := Only2.owns hu14 w_R0 (Sep.symm (Sep.zn zw_R0 zhxb0 (by omega))) (Sep.symm (Sep.zn zw_R0 zhxb1 (by omega)))
      replace hw0 := Only2.box hu14 hw0 (Zn.box zhxb0 (by omega)) (Zn.box zhxb1 (by omega))
      replace hxb := Only2.box hu14 hxb (Zn.box zhxb0 (by omega)) (Zn.box zhxb1 (by omega))
      replace g_R0 := Only2.owns hu14 g_R0 (Sep.zn zhxb0 zg_R0 (by omega)) (Sep.zn zhxb1 zg_R0 (by omega))
      replace hg0 := Only2.box hu14 hg0 (Zn.box zhxb0 (by omega)) (Zn.box zhxb1 (by omega))
      have n14 := hu14.size
      have S14 : Same w w14 := Only2.same S13 hu14 (Zn.lo zhxb0 (by omega)) (Zn.lo zhxb1 (by omega))
      clear hu14 S13 hxb0 hxb1
      clear hx9b0 zhxb0
      clear hx9b1 zhxb1
      clear hxb
      have har_0 := har.cell 0 rfl
      have har_1 := har.cell 1 rfl
      have hab_0 := hab.cell 0 rfl
      have hab_1 := hab.cell 1 rfl
      have hw0_0 := hw0.cell 0 rfl
      have hw0_1 := hw0.cell 1 rfl
      have hg0_0 := hg0.cell 0 rfl
      have hg0_1 := hg0.cell 1 rfl
      go_wp2_with fail
      refine (eqRun_any _ _ _ _ R0 R0 r0 r0 _ hzR0 hzR0 (OwnR.recs cItem_len g_R0) (OwnR.recs cItem_len w_R0)).mono ?_
      rintro e w15 ⟨rfl, hs15⟩
      clear har_0 har_1 hab_0 hab_1 hw0_0 hw0_1 hg0_0 hg0_1
      replace har := BoxAt.same har hs15
      replace hab := BoxAt.same hab hs15
      replace w_R0 := OwnR.same w_R0 hs15
      replace hw0 := BoxAt.same hw0 hs15
      replace g_R0 := OwnR.same g_R0 hs15
      replace hg0 := BoxAt.same hg0 hs15
      have n15 := Same.size hs15
      have S15 : Same w w15 := Same.trans S14 hs15
      clear hs15 S14
      rw [show (decide (R0 = R0) && decide (r0 = r0)) = true by simp]
      have har_0 := har.cell 0 rfl
      have har_1 := har.cell 1 rfl
      have hab_0 := hab.cell 0 rfl
      have hab_1 := hab.cell 1 rfl
      have hw0_0 := hw0.cell 0 rfl
      have hw0_1 := hw0.cell 1 rfl
      have hg0_0 := hg0.cell 0 rfl
      have hg0_1 := hg0.cell 1 rfl
      go_wp2_with fail
      refine (markRun_any r0 _ _ _ R0 1 _ _ rfl (by omega) (by omega) (by omega) g_R0).mono ?_
      rintro e w16 ⟨rfl, g9_R0, hu16⟩
      clear har_0 har_1 hab_0 hab_1 hw0_0 hw0_1 hg0_0 hg0_1
      replace har := Only1.box hu16 har (Zn.box zg_R0 (by omega))
      replace hab := Only1.box hu16 hab (Zn.box zg_R0 (by omega))
      replace w_R0 := Only1.owns hu16 w_R0 (Sep.symm (Sep.zn zw_R0 zg_R0 (by omega)))
      replace hw0 := Only1.box hu16 hw0 (Zn.box zg_R0 (by omega))
      replace hg0 := Only1.box hu16 hg0 (Zn.box zg_R0 (by omega))
      have n16 := hu16.size
      have S16 : Same w w16 := Only1.same S15 hu16 (Zn.lo zg_R0 (by omega))
      clear hu16 S15 g_R0
      have hq : ((1 + 3 * (R0.length : Int)) != (1 + 3 * (R0.length : Int))) = false := by simp
      have har_0 := har.cell 0 rfl
      have har_1 := har.cell 1 rfl
      have hab_0 := hab.cell 0 rfl
      have hab_1 := hab.cell 1 rfl
      have hw0_0 := hw0.cell 0 rfl
      have hw0_1 := hw0.cell 1 rfl
      have hg0_0 := hg0.cell 0 rfl
      have hg0_1 := hg0.cell 1 rfl
      go_wp2_with fail
      refine (heldRun_any r0 _ _ _ 1 _ (by omega) (by omega) (by omega) (OwnR.recs cItem_len g9_R0)).mono ?_
      rintro e w17 ⟨rfl, hs17⟩
      clear har_0 har_1 hab_0 hab_1 hw0_0 hw0_1 hg0_0 hg0_1
      replace har := BoxAt.same har hs17
      replace hab := BoxAt.same hab hs17
      replace w_R0 := OwnR.same w_R0 hs17
      replace hw0 := BoxAt.same hw0 hs17
      replace g9_R0 := OwnR.same g9_R0 hs17
      replace hg0 := BoxAt.same hg0 hs17
      have n17 := Same.size hs17
      have S17 : Same w w17 := Same.trans S16 hs17
      clear hs17 S16
      have har_0 := har.cell 0 rfl
      have har_1 := har.cell 1 rfl
      have hab_0 := hab.cell 0 rfl
      have hab_1 := hab.cell 1 rfl
      go_wp2_with fail
      have keepL : ∀ x : World, Same w17 x → Same w17 x ∧ x.cell? ⟨(w.heap.size), 0, none⟩ = some (.int .i64 r0) ∧ x.cell? ⟨(w.heap.size), 1, none⟩ = some (.slice Ar1 r1.length cr1) ∧ x.cell? ⟨(w.heap.size + 1), 0, none⟩ = some (.slice Ab0 b0.length cb0) ∧ x.cell? ⟨(w.heap.size + 1), 1, none⟩ = some (.slice Ab1 b1.length cb1) := fun x h => ⟨h, (BoxAt.same har h).cell 0 rfl, (BoxAt.same har h).cell 1 rfl, (BoxAt.same hab h).cell 0 rfl, (BoxAt.same hab h).cell 1 rfl⟩
      go_upto_region 31 with (fail)
      go_cut [13] from 75 to 79 (fun t13 wx => ∃ (g : Nat) (Ah_R0 : Option Addr) (ch_R0 : Nat), t13 = .pointer (some ⟨g, 0, none⟩) ∧ BoxAt wx g 26 [.int .i64 r0, .slice Ah_R0 R0.length ch_R0] ∧ OwnItem wx w17.heap.size (.slice Ah_R0 R0.length ch_R0) R0 ∧ Value.ownBlock (.slice Ah_R0 R0.length ch_R0) ≠ some g ∧ w17.heap.size ≤ g ∧ Same w17 wx)
      case first =>
        go_region_held3 (fun x => Same w17 x ∧ x.cell? ⟨(w.heap.size), 0, none⟩ = some (.int .i64 r0) ∧ x.cell? ⟨(w.heap.size), 1, none⟩ = some (.slice Ar1 r1.length cr1) ∧ x.cell? ⟨(w.heap.size + 1), 0, none⟩ = some (.slice Ab0 b0.length cb0) ∧ x.cell? ⟨(w.heap.size + 1), 1, none⟩ = some (.slice Ab1 b1.length cb1))
          (first | exact keepL _ (Same.refl _) | exact keepL _ (Same.refl _).drew | exact keepL _ (Same.alloc (Same.refl _) _) | exact keepL _ (Same.alloc (Same.refl _) _).drew | exact keepL _ (Same.alloc (Same.refl _).drew _) | (go_split_ands; apply keepL; first | assumption | exact Same.trans (by assumption) hsq4_0 | exact Same.trans (by assumption) hsq4_1 | exact Same.trans (by assumption) hsq4 | exact Same.alloc (by assumption) _ | exact Same.alloc S2q4 _ | exact (Same.setCell (Same.setCell S2q4 nnq4_0 _) nnq4_0 _) | exact (Same.setCell (Same.setCell S2q4 nnq4_1 _) nnq4_1 _) | exact (Same.setCell (Same.setCell S2q4 (Nat.le_refl _) _) (Nat.le_refl _) _)))
          (first | (go_split_ands; go_at_call 31; refine (toRun_any r0 Ar1 cr1 r1 _ hlr1 (hAr1.same (Same.trans S17 (by assumption)))).mono ?_; rintro e wq4_0 ⟨Br1q4_0, er1q4_0, rfl, hq4_0_r1, hsq4_0⟩; (have nnq4_0 : w17.heap.size ≤ wq4_0.heap.size := Same.size (Same.trans (by assumption) hsq4_0))) | (go_split_ands; go_at_call 27; refine (toBank_any Ab0 cb0 b0 Ab1 cb1 b1 _ hlb0 (hAb0.same (Same.trans S17 (by assumption))) hlb1 (hAb1.same (Same.trans S17 (by assumption)))).mono ?_; rintro e wq4_1 ⟨Bb0q4_1, eb0q4_1, Bb1q4_1, eb1q4_1, rfl, hq4_1_b0, hq4_1_b1, spq4_1, hsq4_1⟩; (have nnq4_1 : w17.heap.size ≤ wq4_1.heap.size := Same.size (Same.trans (by assumption) hsq4_1))) | (go_split_ands; go_at_call 20; refine ((iConfirm_any r0 _ _ r1 _ _ b0 _ _ b1 _ (by omega) (OwnR.cap (by first | exact (OwnR.same hq4_0_r1 hsq4_1) | exact (OwnR.alloc (OwnR.same hq4_0_r1 hsq4_1) _) | exact (OwnR.same (OwnR.alloc hq4_0_r1 _) hsq4_1))) (OwnR.recs cItem_len (by first | exact (OwnR.same hq4_0_r1 hsq4_1) | exact (OwnR.alloc (OwnR.same hq4_0_r1 hsq4_1) _) | exact (OwnR.same (OwnR.alloc hq4_0_r1 _) hsq4_1))) hzb0 (OwnI.ints (by first | exact hq4_1_b0 | exact (OwnI.alloc hq4_1_b0 _))) hwb0 hzb1 (OwnI.ints (by first | exact hq4_1_b1 | exact (OwnI.alloc hq4_1_b1 _))))).mono ?_; rw [← HR0.out]; rintro e wq4 ⟨Ah_R0, ch_R0, rfl, h_R0, hsq4⟩; (have S2q4 : Same w17 wq4 := Same.trans (by assumption) hsq4); (have vh_R0 := OwnR.rebase h_R0 (show w17.heap.size ≤ _ from Same.size (by assumption))); (first | (have zb : BoxAt wq4 wq4_1.heap.size 26 [.int .i64 0, .slice none 0 0] := (BoxAt.same (BoxAt.new wq4_1 26 [.int .i64 0, .slice none 0 0]) hsq4); have zc0 := zb.cell 0 rfl; have zf0 := zb.frozen 0; have zc1 := zb.cell 1 rfl; have zf1 := zb.frozen 1; have zg : w17.heap.size ≤ wq4_1.heap.size := nnq4_1; have zlR0 : ∀ b, Value.ownBlock (.slice Ah_R0 R0.length ch_R0) = some b → wq4_1.heap.size < b := fun b hb => by have y0 := (owns_new h_R0 b hb).1; have y1 := Same.size hsq4_0; have y2 := Same.size hsq4_1; (try simp at y0); (try simp at y1); (try simp at y2); omega) | (have zb : BoxAt wq4 wq4_0.heap.size 26 [.int .i64 0, .slice none 0 0] := (BoxAt.same (BoxAt.same (BoxAt.new wq4_0 26 [.int .i64 0, .slice none 0 0]) hsq4_1) hsq4); have zc0 := zb.cell 0 rfl; have zf0 := zb.frozen 0; have zc1 := zb.cell 1 rfl; have zf1 := zb.frozen 1; have zg : w17.heap.size ≤ wq4_0.heap.size := nnq4_0; have zlR0 : ∀ b, Value.ownBlock (.slice Ah_R0 R0.length ch_R0) = some b → wq4_0.heap.size < b := fun b hb => by have y0 := (owns_new h_R0 b hb).1; have y1 := Same.size hsq4_0; have y2 := Same.size hsq4_1; (try simp at y0); (try simp at y1); (try simp at y2); omega) | (have zb : BoxAt wq4 w17.heap.size 26 [.int .i64 0, .slice none 0 0] := (BoxAt.same (BoxAt.same (BoxAt.same (BoxAt.same (BoxAt.new w17 26 [.int .i64 0, .slice none 0 0]) (Same.refl _).drew) hsq4_0) hsq4_1) hsq4); have zc0 := zb.cell 0 rfl; have zf0 := zb.frozen 0; have zc1 := zb.cell 1 rfl; have zf1 := zb.frozen 1; have zg : w17.heap.size ≤ w17.heap.size := Nat.le_refl _; have zlR0 : ∀ b, Value.ownBlock (.slice Ah_R0 R0.length ch_R0) = some b → w17.heap.size < b := fun b hb => by have y0 := (owns_new h_R0 b hb).1; have y1 := Same.size hsq4_0; have y2 := Same.size hsq4_1; (try simp at y0); (try simp at y1); (try simp at y2); omega) | skip)))
        all_goals go_wp2_with fail
        all_goals go_meet
        all_goals first | exact ⟨_, Ah_R0, ch_R0, rfl, BoxAt.new wq4 26 [.int .i64 r0, .slice Ah_R0 R0.length ch_R0], OwnR.alloc vh_R0 _, (fun e => by have := (owns_new h_R0 _ e).2; omega), S2q4.size, S2q4.alloc _⟩ | exact ⟨_, Ah_R0, ch_R0, rfl, (BoxAt.set (BoxAt.set zb 0 _) 1 _), (OwnR.upd (OwnR.upd vh_R0 (upd_setCell _ _ 0 _) (show Zn _ (_ + 1) wq4.heap.size from fun b hb => ⟨zlR0 b hb, (owns_new h_R0 b hb).2⟩) (.inr (Nat.le_refl _))) (upd_setCell _ _ 1 _) (show Zn _ (_ + 1) wq4.heap.size from fun b hb => ⟨zlR0 b hb, (owns_new h_R0 b hb).2⟩) (.inr (Nat.le_refl _))), (fun e => by have := zlR0 _ e; omega), zg, (Same.setCell (Same.setCell S2q4 zg _) zg _)⟩
      clear keepL har_0 har_1 hab_0 hab_1
      obtain ⟨gq4, Ah_R0, ch_R0, rfl, hh0, h_R0, neh_R0, hgq4, hs18⟩ := hcut
      generalize wc = w18 at *
      have zh_R0 := Zn.of h_R0
      replace har := BoxAt.same har hs18
      replace hab := BoxAt.same hab hs18
      replace w_R0 := OwnR.same w_R0 hs18
      replace hw0 := BoxAt.same hw0 hs18
      replace g9_R0 := OwnR.same g9_R0 hs18
      replace hg0 := BoxAt.same hg0 hs18
      have n18 := Same.size hs18
      have S18 : Same w w18 := Same.trans S17 hs18
      clear hs18 S17
      have ltq4 := hh0.lt
      have har_0 := har.cell 0 rfl
      have har_1 := har.cell 1 rfl
      have hab_0 := hab.cell 0 rfl
      have hab_1 := hab.cell 1 rfl
      have hw0_0 := hw0.cell 0 rfl
      have hw0_1 := hw0.cell 1 rfl
      have hg0_0 := hg0.cell 0 rfl
      have hg0_1 := hg0.cell 1 rfl
      have hh0_0 := hh0.cell 0 rfl
      have hh0_1 := hh0.cell 1 rfl
      go_wp2_with fail
      refine (eqRun_any _ _ _ _ R0 R0 r0 r0 _ hzR0 hzR0 (OwnR.recs cItem_len h_R0) (OwnR.recs cItem_len w_R0)).mono ?_
      rintro e w19 ⟨rfl, hs19⟩
      clear har_0 har_1 hab_0 hab_1 hw0_0 hw0_1 hg0_0 hg0_1 hh0_0 hh0_1
      replace har := BoxAt.same har hs19
      replace hab := BoxAt.same hab hs19
      replace w_R0 := OwnR.same w_R0 hs19
      replace hw0 := BoxAt.same hw0 hs19
      replace g9_R0 := OwnR.same g9_R0 hs19
      replace hg0 := BoxAt.same hg0 hs19
      replace h_R0 := OwnR.same h_R0 hs19
      replace hh0 := BoxAt.same hh0 hs19
      have n19 := Same.size hs19
      have S19 : Same w w19 := Same.trans S18 hs19
      clear hs19 S18
      rw [show (decide (R0 = R0) && decide (r0 = r0)) = true by simp]
      have har_0 := har.cell 0 rfl
      have har_1 := har.cell 1 rfl
      have hab_0 := hab.cell 0 rfl
      have hab_1 := hab.cell 1 rfl
      have hw0_0 := hw0.cell 0 rfl
      have hw0_1 := hw0.cell 1 rfl
      have hg0_0 := hg0.cell 0 rfl
      have hg0_1 := hg0.cell 1 rfl
      have hh0_0 := hh0.cell 0 rfl
      have hh0_1 := hh0.cell 1 rfl
      go_wp2_with fail
      refine (heldRun_any r0 _ _ _ 1 _ (by omega) (by omega) (by omega) (OwnR.recs cItem_len g9_R0)).mono ?_
      rintro e w20 ⟨rfl, hs20⟩
      clear har_0 har_1 hab_0 hab_1 hw0_0 hw0_1 hg0_0 hg0_1 hh0_0 hh0_1
      replace har := BoxAt.same har hs20
      replace hab := BoxAt.same hab hs20
      replace w_R0 := OwnR.same w_R0 hs20
      replace hw0 := BoxAt.same hw0 hs20
      replace g9_R0 := OwnR.same g9_R0 hs20
      replace hg0 := BoxAt.same hg0 hs20
      replace h_R0 := OwnR.same h_R0 hs20
      replace hh0 := BoxAt.same hh0 hs20
      have n20 := Same.size hs20
      have S20 : Same w w20 := Same.trans S19 hs20
      clear hs20 S19
      have har_0 := har.cell 0 rfl
      have har_1 := har.cell 1 rfl
      have hab_0 := hab.cell 0 rfl
      have hab_1 := hab.cell 1 rfl
      have hw0_0 := hw0.cell 0 rfl
      have hw0_1 := hw0.cell 1 rfl
      have hg0_0 := hg0.cell 0 rfl
      have hg0_1 := hg0.cell 1 rfl
      have hh0_0 := hh0.cell 0 rfl
      have hh0_1 := hh0.cell 1 rfl
      go_wp2_with fail
      go_ret
      exact ⟨rfl, S20⟩
    · go_enter Try.func13, Try.ntmps13
      go_wp2_with fail
      have har : BoxAt ((w.alloc (.cells #[.int .i64 r0, .slice Ar1 r1.length cr1] 49)).alloc (.cells #[.slice Ab0 b0.length cb0, .slice Ab1 b1.length cb1] 42)) (w.heap.size) 49 [.int .i64 r0, .slice Ar1 r1.length cr1] := by simpa using (BoxAt.alloc (BoxAt.new w 49 [.int .i64 r0, .slice Ar1 r1.length cr1]) (.cells #[.slice Ab0 b0.length cb0, .slice Ab1 b1.length cb1] 42))
      have hab : BoxAt ((w.alloc (.cells #[.int .i64 r0, .slice Ar1 r1.length cr1] 49)).alloc (.cells #[.slice Ab0 b0.length cb0, .slice Ab1 b1.length cb1] 42)) (w.heap.size + 1) 42 [.slice Ab0 b0.length cb0, .slice Ab1 b1.length cb1] := by simpa using (BoxAt.new (w.alloc (.cells #[.int .i64 r0, .slice Ar1 r1.length cr1] 49)) 42 [.slice Ab0 b0.length cb0, .slice Ab1 b1.length cb1])
      have hs0 := (Same.alloc (Same.alloc (Same.refl w) (.cells #[.int .i64 r0, .slice Ar1 r1.length cr1] 49)) (.cells #[.slice Ab0 b0.length cb0, .slice Ab1 b1.length cb1] 42))
      have m0 : w.heap.size + 2 ≤ ((w.alloc (.cells #[.int .i64 r0, .slice Ar1 r1.length cr1] 49)).alloc (.cells #[.slice Ab0 b0.length cb0, .slice Ab1 b1.length cb1] 42)).heap.size := by simp
      generalize ((w.alloc (.cells #[.int .i64 r0, .slice Ar1 r1.length cr1] 49)).alloc (.cells #[.slice Ab0 b0.length cb0, .slice Ab1 b1.length cb1] 42)) = w0 at *
      have n0 := Same.size hs0
      have S0 : Same w w0 := Same.trans (Same.refl w) hs0
      clear hs0
      refine (szRun_any r0 Ar1 r1.length cr1 1048576 _ hzr1 (by omega) (by omega)).mono ?_
      rintro e w1 ⟨rfl, hs1⟩
      replace har := BoxAt.same har hs1
      replace hab := BoxAt.same hab hs1
      have n1 := Same.size hs1
      have S1 : Same w w1 := Same.trans S0 hs1
      clear hs1 S0
      rw [if_pos hl0]
      have har_0 := har.cell 0 rfl
      have har_1 := har.cell 1 rfl
      have hab_0 := hab.cell 0 rfl
      have hab_1 := hab.cell 1 rfl
      go_wp2_with fail
      refine (szBank_any Ab0 b0.length cb0 Ab1 b1.length cb1 (1048576 - (r1.length : Int)) _ hzb0 hzb1 (by omega) (by omega)).mono ?_
      rintro e w2 ⟨rfl, hs2⟩
      clear har_0 har_1 hab_0 hab_1
      replace har := BoxAt.same har hs2
      replace hab := BoxAt.same hab hs2
      have n2 := Same.size hs2
      have S2 : Same w w2 := Same.trans S1 hs2
      clear hs2 S1
      rw [if_neg (show ¬ (b0.length : Int) + (b1.length : Int) ≤ 1048576 - (r1.length : Int) by omega)]
      go_wp2
      go_ret
      exact ⟨rfl, S2⟩
  · go_enter Try.func13, Try.ntmps13
    go_wp2_with fail
    have har : BoxAt ((w.alloc (.cells #[.int .i64 r0, .slice Ar1 r1.length cr1] 49)).alloc (.cells #[.slice Ab0 b0.length cb0, .slice Ab1 b1.length cb1] 42)) (w.heap.size) 49 [.int .i64 r0, .slice Ar1 r1.length cr1] := by simpa using (BoxAt.alloc (BoxAt.new w 49 [.int .i64 r0, .slice Ar1 r1.length cr1]) (.cells #[.slice Ab0 b0.length cb0, .slice Ab1 b1.length cb1] 42))
    have hab : BoxAt ((w.alloc (.cells #[.int .i64 r0, .slice Ar1 r1.length cr1] 49)).alloc (.cells #[.slice Ab0 b0.length cb0, .slice Ab1 b1.length cb1] 42)) (w.heap.size + 1) 42 [.slice Ab0 b0.length cb0, .slice Ab1 b1.length cb1] := by simpa using (BoxAt.new (w.alloc (.cells #[.int .i64 r0, .slice Ar1 r1.length cr1] 49)) 42 [.slice Ab0 b0.length cb0, .slice Ab1 b1.length cb1])
    have hs0 := (Same.alloc (Same.alloc (Same.refl w) (.cells #[.int .i64 r0, .slice Ar1 r1.length cr1] 49)) (.cells #[.slice Ab0 b0.length cb0, .slice Ab1 b1.length cb1] 42))
    have m0 : w.heap.size + 2 ≤ ((w.alloc (.cells #[.int .i64 r0, .slice Ar1 r1.length cr1] 49)).alloc (.cells #[.slice Ab0 b0.length cb0, .slice Ab1 b1.length cb1] 42)).heap.size := by simp
    generalize ((w.alloc (.cells #[.int .i64 r0, .slice Ar1 r1.length cr1] 49)).alloc (.cells #[.slice Ab0 b0.length cb0, .slice Ab1 b1.length cb1] 42)) = w0 at *
    have n0 := Same.size hs0
    have S0 : Same w w0 := Same.trans (Same.refl w) hs0
    clear hs0
    refine (szRun_any r0 Ar1 r1.length cr1 1048576 _ hzr1 (by omega) (by omega)).mono ?_
    rintro e w1 ⟨rfl, hs1⟩
    replace har := BoxAt.same har hs1
    replace hab := BoxAt.same hab hs1
    have n1 := Same.size hs1
    have S1 : Same w w1 := Same.trans S0 hs1
    clear hs1 S0
    rw [if_neg (show ¬ (r1.length : Int) ≤ 1048576 by omega)]
    go_wp2
    go_ret
    exact ⟨rfl, S1⟩
end Go.Proofs.Ytccgbilgfnoheaa
