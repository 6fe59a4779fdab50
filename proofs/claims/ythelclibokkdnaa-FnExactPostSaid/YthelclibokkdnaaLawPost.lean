/-
  FnExactPost: for every ledger and posting the program's Post and the reference's hand back the same ledger and answer, in memory of its own, and the arguments are left as they were. No condition.
-/
import Derived.Test.YthelclibokkdnaaPostI
import Derived.Test.YthelclibokkdnaaOnlyL
import Derived.Deep.RegionHeld3
import Derived.Deep.Cut
import Derived.Deep.CutRange
namespace Go.Proofs.Ythelclibokkdnaa
open Go.RowKit
set_option linter.unusedVariables false

theorem OwnR.nil_cap {T : Type} {e : TypeId} {s : Nat} {cells : T → List Value} {w : World} {base n c : Nat} {A : Option Addr} {L : List T} (h : OwnR e s cells w base (.slice A n c) L) : A = none → c = 0 := fun hA => by
  subst hA
  rcases h.2 with ⟨hv, _⟩ | ⟨g', cap, cur, hv, _⟩
  · injection hv
  · injection hv with hv _ _; cases hv
theorem postL_len (L : List TPosting) (y : TPosting) : (postL L y).length ≤ L.length + 1 := by
  unfold postL; split <;> simp

set_option maxRecDepth 10000 in
set_option maxHeartbeats 8000000 in
theorem lawPost (AL : Option Addr) (cL : Nat) (L : List TPosting) (p0 p1 p2 p3 : Int) (w : World) (hzL : L.length ≤ 9223372036854775807) (hAL : AtPosting w AL L) :
    Calls Try.prog 10 #[.agg #[.slice AL L.length cL], .agg #[.int .i64 p0, .int .i64 p1, .int .i64 p2, .int .i64 p3]] w fun e w' => e = .returned (.bool true) ∧ Same w w' := by
  by_cases hl0 : (L.length : Int) ≤ 1048576
  · obtain ⟨R0, hR0⟩ : ∃ R0, R0 = postL L (p0, p1, p2, p3) := ⟨_, rfl⟩
    have hlR0 : R0.length ≤ 1100000 := by rw [hR0]; exact (by have := postL_len L (p0, p1, p2, p3); omega)
    have hzR0 : R0.length ≤ 9223372036854775807 := by omega
    have HR0 := Lib.hid hR0
    clear hR0
    obtain ⟨x1, hx1⟩ : ∃ x1, x1 = postOk L (p0, p1, p2, p3) := ⟨_, rfl⟩
    have HX1 := Lib.hid hx1
    clear hx1
    have hb1_ : (x1 != x1) = false := by simp
    go_enter Try.func10, Try.ntmps10
    go_wp2_with fail
    have haL : BoxAt ((w.alloc (.cells #[.slice AL L.length cL] 33)).alloc (.cells #[.int .i64 p0, .int .i64 p1, .int .i64 p2, .int .i64 p3] 23)) (w.heap.size) 33 [.slice AL L.length cL] := by simpa using (BoxAt.alloc (BoxAt.new w 33 [.slice AL L.length cL]) (.cells #[.int .i64 p0, .int .i64 p1, .int .i64 p2, .int .i64 p3] 23))
    have hap : BoxAt ((w.alloc (.cells #[.slice AL L.length cL] 33)).alloc (.cells #[.int .i64 p0, .int .i64 p1, .int .i64 p2, .int .i64 p3] 23)) (w.heap.size + 1) 23 [.int .i64 p0, .int .i64 p1, .int .i64 p2, .int .i64 p3] := by simpa using (BoxAt.new (w.alloc (.cells #[.slice AL L.length cL] 33)) 23 [.int .i64 p0, .int .i64 p1, .int .i64 p2, .int .i64 p3])
    have hs0 := (Same.alloc (Same.alloc (Same.refl w) (.cells #[.slice AL L.length cL] 33)) (.cells #[.int .i64 p0, .int .i64 p1, .int .i64 p2, .int .i64 p3] 23))
    have m0 : w.heap.size + 2 ≤ ((w.alloc (.cells #[.slice AL L.length cL] 33)).alloc (.cells #[.int .i64 p0, .int .i64 p1, .int .i64 p2, .int .i64 p3] 23)).heap.size := by simp
    generalize ((w.alloc (.cells #[.slice AL L.length cL] 33)).alloc (.cells #[.int .i64 p0, .int .i64 p1, .int .i64 p2, .int .i64 p3] 23)) = w0 at *
    have n0 := Same.size hs0
    have S0 : Same w w0 := Same.trans (Same.refl w) hs0
    clear hs0
    refine (szLedger_any AL L.length cL 1048576 _ hzL (by omega) (by omega)).mono ?_
    rintro e w1 ⟨rfl, hs1⟩
    replace haL := BoxAt.same haL hs1
    replace hap := BoxAt.same hap hs1
    have n1 := Same.size hs1
    have S1 : Same w w1 := Same.trans S0 hs1
    clear hs1 S0
    rw [if_pos hl0]
    have hlL : L.length ≤ 1048576 := by omega
    have haL_0 := haL.cell 0 rfl
    have hap_0 := hap.cell 0 rfl
    have hap_1 := hap.cell 1 rfl
    have hap_2 := hap.cell 2 rfl
    have hap_3 := hap.cell 3 rfl
    go_wp2_with fail
    have keepL : ∀ x : World, Same w1 x → Same w1 x ∧ x.cell? ⟨(w.heap.size), 0, none⟩ = some (.slice AL L.length cL) ∧ x.cell? ⟨(w.heap.size + 1), 0, none⟩ = some (.int .i64 p0) ∧ x.cell? ⟨(w.heap.size + 1), 1, none⟩ = some (.int .i64 p1) ∧ x.cell? ⟨(w.heap.size + 1), 2, none⟩ = some (.int .i64 p2) ∧ x.cell? ⟨(w.heap.size + 1), 3, none⟩ = some (.int .i64 p3) := fun x h => ⟨h, (BoxAt.same haL h).cell 0 rfl, (BoxAt.same hap h).cell 0 rfl, (BoxAt.same hap h).cell 1 rfl, (BoxAt.same hap h).cell 2 rfl, (BoxAt.same hap h).cell 3 rfl⟩
    go_upto_region 5 with (fail)
    go_cut [6, 7] from 21 to 28 (fun t6 t7 wx => ∃ (g : Nat) (Aw_R0 : Option Addr) (cw_R0 : Nat), t6 = .pointer (some ⟨g, 0, none⟩) ∧ t7 = .bool x1 ∧ BoxAt wx g 38 [.slice Aw_R0 R0.length cw_R0] ∧ OwnPosting wx w1.heap.size (.slice Aw_R0 R0.length cw_R0) R0 ∧ Value.ownBlock (.slice Aw_R0 R0.length cw_R0) ≠ some g ∧ w1.heap.size ≤ g ∧ Same w1 wx)
    case first =>
      go_region_held3 (fun x => Same w1 x ∧ x.cell? ⟨(w.heap.size), 0, none⟩ = some (.slice AL L.length cL) ∧ x.cell? ⟨(w.heap.size + 1), 0, none⟩ = some (.int .i64 p0) ∧ x.cell? ⟨(w.heap.size + 1), 1, none⟩ = some (.int .i64 p1) ∧ x.cell? ⟨(w.heap.size + 1), 2, none⟩ = some (.int .i64 p2) ∧ x.cell? ⟨(w.heap.size + 1), 3, none⟩ = some (.int .i64 p3))
        (first | exact keepL _ (Same.refl _) | exact keepL _ (Same.refl _).drew | exact keepL _ (Same.alloc (Same.refl _) _) | exact keepL _ (Same.alloc (Same.refl _) _).drew | exact keepL _ (Same.alloc (Same.refl _).drew _) | (go_split_ands; apply keepL; first | assumption | exact Same.trans (by assumption) hsq1_0 | exact Same.trans (by assumption) hsq1_1 | exact Same.trans (by assumption) hsq1 | exact Same.alloc (by assumption) _ | exact Same.alloc S2q1 _ | exact (Same.setCell S2q1 nnq1_0 _) | exact (Same.setCell S2q1 nnq1_1 _) | exact (Same.setCell S2q1 (Nat.le_refl _) _)))
        (first | (go_split_ands; go_at_call 24; refine (toLedger_any AL cL L _ hlL (hAL.same (Same.trans S1 (by assumption)))).mono ?_; rintro e wq1_0 ⟨BLq1_0, eLq1_0, rfl, hq1_0_L, hsq1_0⟩; (have nnq1_0 : w1.heap.size ≤ wq1_0.heap.size := Same.size (Same.trans (by assumption) hsq1_0))) | (go_split_ands; go_at_call 17; refine (toPosting_any p0 p1 p2 p3 _).mono ?_; rintro e wq1_1 ⟨rfl, hsq1_1⟩; (have nnq1_1 : w1.heap.size ≤ wq1_1.heap.size := Same.size (Same.trans (by assumption) hsq1_1))) | (go_split_ands; go_at_call 42; refine ((show Calls _ _ _ _ (RetLedgerX _ (postL L (p0, p1, p2, p3)) (.bool (postOk L (p0, p1, p2, p3)))) from sPost_any _ _ L p0 p1 p2 p3 _ (by omega) (OwnR.recs cPosting_len (by first | exact (OwnR.same hq1_0_L hsq1_1) | exact (OwnR.alloc (OwnR.same hq1_0_L hsq1_1) _) | exact (OwnR.same (OwnR.alloc hq1_0_L _) hsq1_1))) (OwnR.nil_cap (by first | exact (OwnR.same hq1_0_L hsq1_1) | exact (OwnR.alloc (OwnR.same hq1_0_L hsq1_1) _) | exact (OwnR.same (OwnR.alloc hq1_0_L _) hsq1_1))))).mono ?_; rw [← HR0.out, ← HX1.out]; rintro e wq1 ⟨Aw_R0, cw_R0, rfl, w_R0, hsq1⟩; (have S2q1 : Same w1 wq1 := Same.trans (by assumption) hsq1); (have vw_R0 := OwnR.rebase w_R0 (show w1.heap.size ≤ _ from Same.size (by assumption))); (first | (have zb : BoxAt wq1 wq1_1.heap.size 38 [.slice none 0 0] := (BoxAt.same (BoxAt.new wq1_1 38 [.slice none 0 0]) hsq1); have zc0 := zb.cell 0 rfl; have zf0 := zb.frozen 0; have zg : w1.heap.size ≤ wq1_1.heap.size := nnq1_1; have zlR0 : ∀ b, Value.ownBlock (.slice Aw_R0 R0.length cw_R0) = some b → wq1_1.heap.size < b := fun b hb => by have y0 := (owns_new w_R0 b hb).1; have y1 := Same.size hsq1_0; have y2 := Same.size hsq1_1; (try simp at y0); (try simp at y1); (try simp at y2); omega) | (have zb : BoxAt wq1 wq1_0.heap.size 38 [.slice none 0 0] := (BoxAt.same (BoxAt.same (BoxAt.new wq1_0 38 [.slice none 0 0]) hsq1_1) hsq1); have zc0 := zb.cell 0 rfl; have zf0 := zb.frozen 0; have zg : w1.heap.size ≤ wq1_0.heap.size := nnq1_0; have zlR0 : ∀ b, Value.ownBlock (.slice Aw_R0 R0.length cw_R0) = some b → wq1_0.heap.size < b := fun b hb => by have y0 := (owns_new w_R0 b hb).1; have y1 := Same.size hsq1_0; have y2 := Same.size hsq1_1; (try simp at y0); (try simp at y1); (try simp at y2); omega) | (have zb : BoxAt wq1 w1.heap.size 38 [.slice none 0 0] := (BoxAt.same (BoxAt.same (BoxAt.same (BoxAt.same (BoxAt.new w1 38 [.slice none 0 0]) (Same.refl _).drew) hsq1_0) hsq1_1) hsq1); have zc0 := zb.cell 0 rfl; have zf0 := zb.frozen 0; have zg : w1.heap.size ≤ w1.heap.size := Nat.le_refl _; have zlR0 : ∀ b, Value.ownBlock (.slice Aw_R0 R0.length cw_R0) = some b → w1.heap.size < b := fun b hb => by have y0 := (owns_new w_R0 b hb).1; have y1 := Same.size hsq1_0; have y2 := Same.size hsq1_1; (try simp at y0); (try simp at y1); (try simp at y2); omega) | skip)))
      all_goals go_wp2_with fail
      all_goals go_meet
      all_goals first | exact ⟨_, Aw_R0, cw_R0, rfl, rfl, BoxAt.new wq1 38 [.slice Aw_R0 R0.length cw_R0], OwnR.alloc vw_R0 _, (fun e => by have := (owns_new w_R0 _ e).2; omega), S2q1.size, S2q1.alloc _⟩ | exact ⟨_, Aw_R0, cw_R0, rfl, rfl, (BoxAt.set zb 0 _), (OwnR.upd vw_R0 (upd_setCell _ _ 0 _) (show Zn _ (_ + 1) wq1.heap.size from fun b hb => ⟨zlR0 b hb, (owns_new w_R0 b hb).2⟩) (.inr (Nat.le_refl _))), (fun e => by have := zlR0 _ e; omega), zg, (Same.setCell S2q1 zg _)⟩
    clear keepL haL_0 hap_0 hap_1 hap_2 hap_3
    obtain ⟨gq1, Aw_R0, cw_R0, rfl, rfl, hw0, w_R0, new_R0, hgq1, hs2⟩ := hcut
    generalize wc = w2 at *
    have zw_R0 := Zn.of w_R0
    replace haL := BoxAt.same haL hs2
    replace hap := BoxAt.same hap hs2
    have n2 := Same.size hs2
    have S2 : Same w w2 := Same.trans S1 hs2
    clear hs2 S1
    have ltq1 := hw0.lt
    have haL_0 := haL.cell 0 rfl
    have hap_0 := hap.cell 0 rfl
    have hap_1 := hap.cell 1 rfl
    have hap_2 := hap.cell 2 rfl
    have hap_3 := hap.cell 3 rfl
    have hw0_0 := hw0.cell 0 rfl
    go_wp2_with fail
    refine (toLedger_any AL cL L _ hlL (hAL.same S2)).mono ?_
    rintro e w3 ⟨BL3, eL3, rfl, hxL, hs3⟩
    clear haL_0 hap_0 hap_1 hap_2 hap_3 hw0_0
    have zhxL := Zn.of hxL
    replace haL := BoxAt.same haL hs3
    replace hap := BoxAt.same hap hs3
    replace w_R0 := OwnR.same w_R0 hs3
    replace hw0 := BoxAt.same hw0 hs3
    have n3 := Same.size hs3
    have S3 : Same w w3 := Same.trans S2 hs3
    clear hs3 S2
    have hXL : BoxAt (w3.alloc (.cells #[.slice BL3 L.length eL3] 38)) (w3.heap.size) 38 [.slice BL3 L.length eL3] := by simpa using (BoxAt.new w3 38 [.slice BL3 L.length eL3])
    have hs4 := (Same.alloc (Same.refl w3) (.cells #[.slice BL3 L.length eL3] 38))
    have m4 : w3.heap.size + 1 ≤ (w3.alloc (.cells #[.slice BL3 L.length eL3] 38)).heap.size := by simp
    replace haL := BoxAt.same haL hs4
    replace hap := BoxAt.same hap hs4
    replace w_R0 := OwnR.same w_R0 hs4
    replace hw0 := BoxAt.same hw0 hs4
    replace hxL := OwnR.same hxL hs4
    have haL_0 := haL.cell 0 rfl
    have hap_0 := hap.cell 0 rfl
    have hap_1 := hap.cell 1 rfl
    have hap_2 := hap.cell 2 rfl
    have hap_3 := hap.cell 3 rfl
    have hw0_0 := hw0.cell 0 rfl
    have hXL_0 := hXL.cell 0 rfl
    go_wp2_with fail
    generalize (w3.alloc (.cells #[.slice BL3 L.length eL3] 38)) = w4 at *
    have n4 := Same.size hs4
    have S4 : Same w w4 := Same.trans S3 hs4
    clear hs4 S3
    clear haL_0 hap_0 hap_1 hap_2 hap_3 hw0_0 hXL_0
    have hap_0 := hap.cell 0 rfl
    have hap_1 := hap.cell 1 rfl
    have hap_2 := hap.cell 2 rfl
    have hap_3 := hap.cell 3 rfl
    have hXL_0 := hXL.cell 0 rfl
    have keepL : ∀ x : World, Same w4 x → Same w4 x ∧ x.cell? ⟨(w3.heap.size), 0, none⟩ = some (.slice BL3 L.length eL3) ∧ x.cell? ⟨(w.heap.size + 1), 0, none⟩ = some (.int .i64 p0) ∧ x.cell? ⟨(w.heap.size + 1), 1, none⟩ = some (.int .i64 p1) ∧ x.cell? ⟨(w.heap.size + 1), 2, none⟩ = some (.int .i64 p2) ∧ x.cell? ⟨(w.heap.size + 1), 3, none⟩ = some (.int .i64 p3) := fun x h => ⟨h, (BoxAt.same hXL h).cell 0 rfl, (BoxAt.same hap h).cell 0 rfl, (BoxAt.same hap h).cell 1 rfl, (BoxAt.same hap h).cell 2 rfl, (BoxAt.same hap h).cell 3 rfl⟩
    go_upto_region 7 with (fail)
    go_cut [9, 10] from 31 to 37 (fun t9 t10 wx => ∃ (g : Nat) (Ag_R0 : Option Addr) (cg_R0 : Nat), t9 = .pointer (some ⟨g, 0, none⟩) ∧ t10 = .bool x1 ∧ BoxAt wx g 38 [.slice Ag_R0 R0.length cg_R0] ∧ OwnPosting wx w4.heap.size (.slice Ag_R0 R0.length cg_R0) R0 ∧ Value.ownBlock (.slice Ag_R0 R0.length cg_R0) ≠ some g ∧ w4.heap.size ≤ g ∧ Same w4 wx)
    case first =>
      go_region_held3 (fun x => Same w4 x ∧ x.cell? ⟨(w3.heap.size), 0, none⟩ = some (.slice BL3 L.length eL3) ∧ x.cell? ⟨(w.heap.size + 1), 0, none⟩ = some (.int .i64 p0) ∧ x.cell? ⟨(w.heap.size + 1), 1, none⟩ = some (.int .i64 p1) ∧ x.cell? ⟨(w.heap.size + 1), 2, none⟩ = some (.int .i64 p2) ∧ x.cell? ⟨(w.heap.size + 1), 3, none⟩ = some (.int .i64 p3))
        (first | exact keepL _ (Same.refl _) | exact keepL _ (Same.refl _).drew | exact keepL _ (Same.alloc (Same.refl _) _) | exact keepL _ (Same.alloc (Same.refl _) _).drew | exact keepL _ (Same.alloc (Same.refl _).drew _) | (go_split_ands; apply keepL; first | assumption | exact Same.trans (by assumption) hsq2_0 | exact Same.trans (by assumption) hsq2 | exact Same.alloc (by assumption) _ | exact Same.alloc S2q2 _ | exact (Same.setCell S2q2 nnq2_0 _) | exact (Same.setCell S2q2 (Nat.le_refl _) _)))
        (first | (go_split_ands; go_at_call 17; refine (toPosting_any p0 p1 p2 p3 _).mono ?_; rintro e wq2_0 ⟨rfl, hsq2_0⟩; (have nnq2_0 : w4.heap.size ≤ wq2_0.heap.size := Same.size (Same.trans (by assumption) hsq2_0))) | (go_split_ands; go_at_call 40; refine ((show Calls _ _ _ _ (RetLedgerX _ (postL L (p0, p1, p2, p3)) (.bool (postOk L (p0, p1, p2, p3)))) from iPost_any _ _ L p0 p1 p2 p3 _ (by omega) (OwnR.recs cPosting_len (OwnR.same hxL (by assumption))))).mono ?_; rw [← HR0.out, ← HX1.out]; rintro e wq2 ⟨Ag_R0, cg_R0, rfl, g_R0, hsq2⟩; (have S2q2 : Same w4 wq2 := Same.trans (by assumption) hsq2); (have vg_R0 := OwnR.rebase g_R0 (show w4.heap.size ≤ _ from Same.size (by assumption))); (first | (have zb : BoxAt wq2 wq2_0.heap.size 38 [.slice none 0 0] := (BoxAt.same (BoxAt.new wq2_0 38 [.slice none 0 0]) hsq2); have zc0 := zb.cell 0 rfl; have zf0 := zb.frozen 0; have zg : w4.heap.size ≤ wq2_0.heap.size := nnq2_0; have zlR0 : ∀ b, Value.ownBlock (.slice Ag_R0 R0.length cg_R0) = some b → wq2_0.heap.size < b := fun b hb => by have y0 := (owns_new g_R0 b hb).1; have y1 := Same.size hsq2_0; (try simp at y0); (try simp at y1); omega) | (have zb : BoxAt wq2 w4.heap.size 38 [.slice none 0 0] := (BoxAt.same (BoxAt.same (BoxAt.same (BoxAt.new w4 38 [.slice none 0 0]) (Same.refl _).drew) hsq2_0) hsq2); have zc0 := zb.cell 0 rfl; have zf0 := zb.frozen 0; have zg : w4.heap.size ≤ w4.heap.size := Nat.le_refl _; have zlR0 : ∀ b, Value.ownBlock (.slice Ag_R0 R0.length cg_R0) = some b → w4.heap.size < b := fun b hb => by have y0 := (owns_new g_R0 b hb).1; have y1 := Same.size hsq2_0; (try simp at y0); (try simp at y1); omega) | skip)))
      all_goals go_wp2_with fail
      all_goals go_meet
      all_goals first | exact ⟨_, Ag_R0, cg_R0, rfl, rfl, BoxAt.new wq2 38 [.slice Ag_R0 R0.length cg_R0], OwnR.alloc vg_R0 _, (fun e => by have := (owns_new g_R0 _ e).2; omega), S2q2.size, S2q2.alloc _⟩ | exact ⟨_, Ag_R0, cg_R0, rfl, rfl, (BoxAt.set zb 0 _), (OwnR.upd vg_R0 (upd_setCell _ _ 0 _) (show Zn _ (_ + 1) wq2.heap.size from fun b hb => ⟨zlR0 b hb, (owns_new g_R0 b hb).2⟩) (.inr (Nat.le_refl _))), (fun e => by have := zlR0 _ e; omega), zg, (Same.setCell S2q2 zg _)⟩
    clear keepL hap_0 hap_1 hap_2 hap_3 hXL_0
    obtain ⟨gq2, Ag_R0, cg_R0, rfl, rfl, hg0, g_R0, neg_R0, hgq2, hs5⟩ := hcut
    generalize wc = w5 at *
    have zg_R0 := Zn.of g_R0
    replace haL := BoxAt.same haL hs5
    replace hap := BoxAt.same hap hs5
    replace w_R0 := OwnR.same w_R0 hs5
    replace hw0 := BoxAt.same hw0 hs5
    replace hxL := OwnR.same hxL hs5
    replace hXL := BoxAt.same hXL hs5
    have n5 := Same.size hs5
    have S5 : Same w w5 := Same.trans S4 hs5
    clear hs5 S4
    have ltq2 := hg0.lt
    have haL_0 := haL.cell 0 rfl
    have hap_0 := hap.cell 0 rfl
    have hap_1 := hap.cell 1 rfl
    have hap_2 := hap.cell 2 rfl
    have hap_3 := hap.cell 3 rfl
    have hw0_0 := hw0.cell 0 rfl
    have hXL_0 := hXL.cell 0 rfl
    have hg0_0 := hg0.cell 0 rfl
    go_wp2_with fail
    refine (eqLedger_any _ _ _ _ R0 R0 _ hzR0 hzR0 (OwnR.recs cPosting_len g_R0) (OwnR.recs cPosting_len w_R0)).mono ?_
    rintro e w6 ⟨rfl, hs6⟩
    clear haL_0 hap_0 hap_1 hap_2 hap_3 hw0_0 hXL_0 hg0_0
    replace haL := BoxAt.same haL hs6
    replace hap := BoxAt.same hap hs6
    replace w_R0 := OwnR.same w_R0 hs6
    replace hw0 := BoxAt.same hw0 hs6
    replace hxL := OwnR.same hxL hs6
    replace hXL := BoxAt.same hXL hs6
    replace g_R0 := OwnR.same g_R0 hs6
    replace hg0 := BoxAt.same hg0 hs6
    have n6 := Same.size hs6
    have S6 : Same w w6 := Same.trans S5 hs6
    clear hs6 S5
    rw [decide_eq_true rfl]
    have haL_0 := haL.cell 0 rfl
    have hXL_0 := hXL.cell 0 rfl
    go_wp2_with fail
    go_region_held3 (fun w' => w'.cell? ⟨(w3.heap.size), 0, none⟩ = some (.slice BL3 L.length eL3) ∧ w'.cell? ⟨(w.heap.size), 0, none⟩ = some (.slice AL L.length cL))
      (first | exact ⟨(BoxAt.same hXL (Same.refl w6)).cell 0 rfl, (BoxAt.same haL (Same.refl w6)).cell 0 rfl⟩ | exact ⟨(BoxAt.same hXL (Same.refl w6).drew).cell 0 rfl, (BoxAt.same haL (Same.refl w6).drew).cell 0 rfl⟩ | exact ⟨(BoxAt.same hXL (Same.trans (Same.refl w6).drew hsq3_0)).cell 0 rfl, (BoxAt.same haL (Same.trans (Same.refl w6).drew hsq3_0)).cell 0 rfl⟩ | exact ⟨(BoxAt.same hXL (Same.trans (Same.trans (Same.refl w6).drew hsq3_0) hsq3_1)).cell 0 rfl, (BoxAt.same haL (Same.trans (Same.trans (Same.refl w6).drew hsq3_0) hsq3_1)).cell 0 rfl⟩)
      (first | (go_at_call 24; refine (toLedger_any AL cL L _ hlL (hAL.same (Same.trans S6 (Same.refl w6).drew))).mono ?_; rintro e wq3_0 ⟨BLq3_0, eLq3_0, rfl, hq3_L, hsq3_0⟩) | (go_at_call 26; refine (eqLedger_any _ _ _ _ L L  _ hzL hzL (OwnR.recs cPosting_len (OwnR.same hxL (Same.trans (Same.refl w6).drew hsq3_0))) (OwnR.recs cPosting_len hq3_L)).mono ?_; rintro e w7 ⟨rfl, hsq3_1⟩; rw [show (decide (L = L)) = true by simp]))
    clear haL_0 hXL_0
    have hs7 := (Same.trans (Same.trans (Same.refl w6).drew hsq3_0) hsq3_1)
    clear hsq3_0 hsq3_1 hq3_L
    replace haL := BoxAt.same haL hs7
    replace hap := BoxAt.same hap hs7
    replace w_R0 := OwnR.same w_R0 hs7
    replace hw0 := BoxAt.same hw0 hs7
    replace hxL := OwnR.same hxL hs7
    replace hXL := BoxAt.same hXL hs7
    replace g_R0 := OwnR.same g_R0 hs7
    replace hg0 := BoxAt.same hg0 hs7
    have n7 := Same.size hs7
    have S7 : Same w w7 := Same.trans S6 hs7
    clear hs7 S6
    have haL_0 := haL.cell 0 rfl
    have hap_0 := hap.cell 0 rfl
    have hap_1 := hap.cell 1 rfl
    have hap_2 := hap.cell 2 rfl
    have hap_3 := hap.cell 3 rfl
    have hw0_0 := hw0.cell 0 rfl
    have hXL_0 := hXL.cell 0 rfl
    have hg0_0 := hg0.cell 0 rfl
    go_wp2_with fail
    refine (markLedger_only _ _ _ L 1 _ _ rfl (by omega) (by omega) (by omega) hxL).mono ?_
    rintro e w8 ⟨rfl, hx9L, hu8⟩
    clear haL_0 hap_0 hap_1 hap_2 hap_3 hw0_0 hXL_0 hg0_0
    replace haL := Only1.box hu8 haL (Zn.box zhxL (by omega))
    replace hap := Only1.box hu8 hap (Zn.box zhxL (by omega))
    replace w_R0 := Only1.owns hu8 w_R0 (Sep.symm (Sep.zn zw_R0 zhxL (by omega)))
    replace hw0 := Only1.box hu8 hw0 (Zn.box zhxL (by omega))
    replace hXL := Only1.box hu8 hXL (Zn.box zhxL (by omega))
    replace g_R0 := Only1.owns hu8 g_R0 (Sep.zn zhxL zg_R0 (by omega))
    replace hg0 := Only1.box hu8 hg0 (Zn.box zhxL (by omega))
    have n8 := hu8.size
    have S8 : Same w w8 := Only1.same S7 hu8 (Zn.lo zhxL (by omega))
    clear hu8 S7 hxL
    clear hx9L zhxL
    clear hXL
    have haL_0 := haL.cell 0 rfl
    have hap_0 := hap.cell 0 rfl
    have hap_1 := hap.cell 1 rfl
    have hap_2 := hap.cell 2 rfl
    have hap_3 := hap.cell 3 rfl
    have hw0_0 := hw0.cell 0 rfl
    have hg0_0 := hg0.cell 0 rfl
    go_wp2_with fail
    refine (eqLedger_any _ _ _ _ R0 R0 _ hzR0 hzR0 (OwnR.recs cPosting_len g_R0) (OwnR.recs cPosting_len w_R0)).mono ?_
    rintro e w9 ⟨rfl, hs9⟩
    clear haL_0 hap_0 hap_1 hap_2 hap_3 hw0_0 hg0_0
    replace haL := BoxAt.same haL hs9
    replace hap := BoxAt.same hap hs9
    replace w_R0 := OwnR.same w_R0 hs9
    replace hw0 := BoxAt.same hw0 hs9
    replace g_R0 := OwnR.same g_R0 hs9
    replace hg0 := BoxAt.same hg0 hs9
    have n9 := Same.size hs9
    have S9 : Same w w9 := Same.trans S8 hs9
    clear hs9 S8
    rw [decide_eq_true rfl]
    have haL_0 := haL.cell 0 rfl
    have hap_0 := hap.cell 0 rfl
    have hap_1 := hap.cell 1 rfl
    have hap_2 := hap.cell 2 rfl
    have hap_3 := hap.cell 3 rfl
    have hw0_0 := hw0.cell 0 rfl
    have hg0_0 := hg0.cell 0 rfl
    go_wp2_with fail
    refine (markLedger_only _ _ _ R0 1 _ _ rfl (by omega) (by omega) (by omega) g_R0).mono ?_
    rintro e w10 ⟨rfl, g9_R0, hu10⟩
    clear haL_0 hap_0 hap_1 hap_2 hap_3 hw0_0 hg0_0
    replace haL := Only1.box hu10 haL (Zn.box zg_R0 (by omega))
    replace hap := Only1.box hu10 hap (Zn.box zg_R0 (by omega))
    replace w_R0 := Only1.owns hu10 w_R0 (Sep.symm (Sep.zn zw_R0 zg_R0 (by omega)))
    replace hw0 := Only1.box hu10 hw0 (Zn.box zg_R0 (by omega))
    replace hg0 := Only1.box hu10 hg0 neg_R0
    have n10 := hu10.size
    have S10 : Same w w10 := Only1.same S9 hu10 (Zn.lo zg_R0 (by omega))
    clear hu10 S9 g_R0
    have hq : ((1 + 4 * (R0.length : Int)) != (1 + 4 * (R0.length : Int))) = false := by simp
    have haL_0 := haL.cell 0 rfl
    have hap_0 := hap.cell 0 rfl
    have hap_1 := hap.cell 1 rfl
    have hap_2 := hap.cell 2 rfl
    have hap_3 := hap.cell 3 rfl
    have hw0_0 := hw0.cell 0 rfl
    have hg0_0 := hg0.cell 0 rfl
    go_wp2_with fail
    refine (heldLedger_any _ _ _ 1 _ (by omega) (by omega) (by omega) (OwnR.recs cPosting_len g9_R0)).mono ?_
    rintro e w11 ⟨rfl, hs11⟩
    clear haL_0 hap_0 hap_1 hap_2 hap_3 hw0_0 hg0_0
    replace haL := BoxAt.same haL hs11
    replace hap := BoxAt.same hap hs11
    replace w_R0 := OwnR.same w_R0 hs11
    replace hw0 := BoxAt.same hw0 hs11
    replace g9_R0 := OwnR.same g9_R0 hs11
    replace hg0 := BoxAt.same hg0 hs11
    have n11 := Same.size hs11
    have S11 : Same w w11 := Same.trans S10 hs11
    clear hs11 S10
    have haL_0 := haL.cell 0 rfl
    have hap_0 := hap.cell 0 rfl
    have hap_1 := hap.cell 1 rfl
    have hap_2 := hap.cell 2 rfl
    have hap_3 := hap.cell 3 rfl
    go_wp2_with fail
    have keepL : ∀ x : World, Same w11 x → Same w11 x ∧ x.cell? ⟨(w.heap.size), 0, none⟩ = some (.slice AL L.length cL) ∧ x.cell? ⟨(w.heap.size + 1), 0, none⟩ = some (.int .i64 p0) ∧ x.cell? ⟨(w.heap.size + 1), 1, none⟩ = some (.int .i64 p1) ∧ x.cell? ⟨(w.heap.size + 1), 2, none⟩ = some (.int .i64 p2) ∧ x.cell? ⟨(w.heap.size + 1), 3, none⟩ = some (.int .i64 p3) := fun x h => ⟨h, (BoxAt.same haL h).cell 0 rfl, (BoxAt.same hap h).cell 0 rfl, (BoxAt.same hap h).cell 1 rfl, (BoxAt.same hap h).cell 2 rfl, (BoxAt.same hap h).cell 3 rfl⟩
    go_upto_region 24 with (fail)
    go_cut [14, 15] from 79 to 86 (fun t14 t15 wx => ∃ (g : Nat) (Ah_R0 : Option Addr) (ch_R0 : Nat), t14 = .pointer (some ⟨g, 0, none⟩) ∧ t15 = .bool x1 ∧ BoxAt wx g 38 [.slice Ah_R0 R0.length ch_R0] ∧ OwnPosting wx w11.heap.size (.slice Ah_R0 R0.length ch_R0) R0 ∧ Value.ownBlock (.slice Ah_R0 R0.length ch_R0) ≠ some g ∧ w11.heap.size ≤ g ∧ Same w11 wx)
    case first =>
      go_region_held3 (fun x => Same w11 x ∧ x.cell? ⟨(w.heap.size), 0, none⟩ = some (.slice AL L.length cL) ∧ x.cell? ⟨(w.heap.size + 1), 0, none⟩ = some (.int .i64 p0) ∧ x.cell? ⟨(w.heap.size + 1), 1, none⟩ = some (.int .i64 p1) ∧ x.cell? ⟨(w.heap.size + 1), 2, none⟩ = some (.int .i64 p2) ∧ x.cell? ⟨(w.heap.size + 1), 3, none⟩ = some (.int .i64 p3))
        (first | exact keepL _ (Same.refl _) | exact keepL _ (Same.refl _).drew | exact keepL _ (Same.alloc (Same.refl _) _) | exact keepL _ (Same.alloc (Same.refl _) _).drew | exact keepL _ (Same.alloc (Same.refl _).drew _) | (go_split_ands; apply keepL; first | assumption | exact Same.trans (by assumption) hsq4_0 | exact Same.trans (by assumption) hsq4_1 | exact Same.trans (by assumption) hsq4 | exact Same.alloc (by assumption) _ | exact Same.alloc S2q4 _ | exact (Same.setCell S2q4 nnq4_0 _) | exact (Same.setCell S2q4 nnq4_1 _) | exact (Same.setCell S2q4 (Nat.le_refl _) _)))
        (first | (go_split_ands; go_at_call 24; refine (toLedger_any AL cL L _ hlL (hAL.same (Same.trans S11 (by assumption)))).mono ?_; rintro e wq4_0 ⟨BLq4_0, eLq4_0, rfl, hq4_0_L, hsq4_0⟩; (have nnq4_0 : w11.heap.size ≤ wq4_0.heap.size := Same.size (Same.trans (by assumption) hsq4_0))) | (go_split_ands; go_at_call 17; refine (toPosting_any p0 p1 p2 p3 _).mono ?_; rintro e wq4_1 ⟨rfl, hsq4_1⟩; (have nnq4_1 : w11.heap.size ≤ wq4_1.heap.size := Same.size (Same.trans (by assumption) hsq4_1))) | (go_split_ands; go_at_call 40; refine ((show Calls _ _ _ _ (RetLedgerX _ (postL L (p0, p1, p2, p3)) (.bool (postOk L (p0, p1, p2, p3)))) from iPost_any _ _ L p0 p1 p2 p3 _ (by omega) (OwnR.recs cPosting_len (by first | exact (OwnR.same hq4_0_L hsq4_1) | exact (OwnR.alloc (OwnR.same hq4_0_L hsq4_1) _) | exact (OwnR.same (OwnR.alloc hq4_0_L _) hsq4_1))))).mono ?_; rw [← HR0.out, ← HX1.out]; rintro e wq4 ⟨Ah_R0, ch_R0, rfl, h_R0, hsq4⟩; (have S2q4 : Same w11 wq4 := Same.trans (by assumption) hsq4); (have vh_R0 := OwnR.rebase h_R0 (show w11.heap.size ≤ _ from Same.size (by assumption))); (first | (have zb : BoxAt wq4 wq4_1.heap.size 38 [.slice none 0 0] := (BoxAt.same (BoxAt.new wq4_1 38 [.slice none 0 0]) hsq4); have zc0 := zb.cell 0 rfl; have zf0 := zb.frozen 0; have zg : w11.heap.size ≤ wq4_1.heap.size := nnq4_1; have zlR0 : ∀ b, Value.ownBlock (.slice Ah_R0 R0.length ch_R0) = some b → wq4_1.heap.size < b := fun b hb => by have y0 := (owns_new h_R0 b hb).1; have y1 := Same.size hsq4_0; have y2 := Same.size hsq4_1; (try simp at y0); (try simp at y1); (try simp at y2); omega) | (have zb : BoxAt wq4 wq4_0.heap.size 38 [.slice none 0 0] := (BoxAt.same (BoxAt.same (BoxAt.new wq4_0 38 [.slice none 0 0]) hsq4_1) hsq4); have zc0 := zb.cell 0 rfl; have zf0 := zb.frozen 0; have zg : w11.heap.size ≤ wq4_0.heap.size := nnq4_0; have zlR0 : ∀ b, Value.ownBlock (.slice Ah_R0 R0.length ch_R0) = some b → wq4_0.heap.size < b := fun b hb => by have y0 := (owns_new h_R0 b hb).1; have y1 := Same.size hsq4_0; have y2 := Same.size hsq4_1; (try simp at y0); (try simp at y1); (try simp at y2); omega) | (have zb : BoxAt wq4 w11.heap.size 38 [.slice none 0 0] := (BoxAt.same (BoxAt.same (BoxAt.same (BoxAt.same (BoxAt.new w11 38 [.slice none 0 0]) (Same.refl _).drew) hsq4_0) hsq4_1) hsq4); have zc0 := zb.cell 0 rfl; have zf0 := zb.frozen 0; have zg : w11.heap.size ≤ w11.heap.size := Nat.le_refl _; have zlR0 : ∀ b, Value.ownBlock (.slice Ah_R0 R0.length ch_R0) = some b → w11.heap.size < b := fun b hb => by have y0 := (owns_new h_R0 b hb).1; have y1 := Same.size hsq4_0; have y2 := Same.size hsq4_1; (try simp at y0); (try simp at y1); (try simp at y2); omega) | skip)))
      all_goals go_wp2_with fail
      all_goals go_meet
      all_goals first | exact ⟨_, Ah_R0, ch_R0, rfl, rfl, BoxAt.new wq4 38 [.slice Ah_R0 R0.length ch_R0], OwnR.alloc vh_R0 _, (fun e => by have := (owns_new h_R0 _ e).2; omega), S2q4.size, S2q4.alloc _⟩ | exact ⟨_, Ah_R0, ch_R0, rfl, rfl, (BoxAt.set zb 0 _), (OwnR.upd vh_R0 (upd_setCell _ _ 0 _) (show Zn _ (_ + 1) wq4.heap.size from fun b hb => ⟨zlR0 b hb, (owns_new h_R0 b hb).2⟩) (.inr (Nat.le_refl _))), (fun e => by have := zlR0 _ e; omega), zg, (Same.setCell S2q4 zg _)⟩
    clear keepL haL_0 hap_0 hap_1 hap_2 hap_3
    obtain ⟨gq4, Ah_R0, ch_R0, rfl, rfl, hh0, h_R0, neh_R0, hgq4, hs12⟩ := hcut
    generalize wc = w12 at *
    have zh_R0 := Zn.of h_R0
    replace haL := BoxAt.same haL hs12
    replace hap := BoxAt.same hap hs12
    replace w_R0 := OwnR.same w_R0 hs12
    replace hw0 := BoxAt.same hw0 hs12
    replace g9_R0 := OwnR.same g9_R0 hs12
    replace hg0 := BoxAt.same hg0 hs12
    have n12 := Same.size hs12
    have S12 : Same w w12 := Same.trans S11 hs12
    clear hs12 S11
    have ltq4 := hh0.lt
    have haL_0 := haL.cell 0 rfl
    have hap_0 := hap.cell 0 rfl
    have hap_1 := hap.cell 1 rfl
    have hap_2 := hap.cell 2 rfl
    have hap_3 := hap.cell 3 rfl
    have hw0_0 := hw0.cell 0 rfl
    have hg0_0 := hg0.cell 0 rfl
    have hh0_0 := hh0.cell 0 rfl
    go_wp2_with fail
    refine (eqLedger_any _ _ _ _ R0 R0 _ hzR0 hzR0 (OwnR.recs cPosting_len h_R0) (OwnR.recs cPosting_len w_R0)).mono ?_
    rintro e w13 ⟨rfl, hs13⟩
    clear haL_0 hap_0 hap_1 hap_2 hap_3 hw0_0 hg0_0 hh0_0
    replace haL := BoxAt.same haL hs13
    replace hap := BoxAt.same hap hs13
    replace w_R0 := OwnR.same w_R0 hs13
    replace hw0 := BoxAt.same hw0 hs13
    replace g9_R0 := OwnR.same g9_R0 hs13
    replace hg0 := BoxAt.same hg0 hs13
    replace h_R0 := OwnR.same h_R0 hs13
    replace hh0 := BoxAt.same hh0 hs13
    have n13 := Same.size hs13
    have S13 : Same w w13 := Same.trans S12 hs13
    clear hs13 S12
    rw [decide_eq_true rfl]
    have haL_0 := haL.cell 0 rfl
    have hap_0 := hap.cell 0 rfl
    have hap_1 := hap.cell 1 rfl
    have hap_2 := hap.cell 2 rfl
    have hap_3 := hap.cell 3 rfl
    have hw0_0 := hw0.cell 0 rfl
    have hg0_0 := hg0.cell 0 rfl
    have hh0_0 := hh0.cell 0 rfl
    go_wp2_with fail
    refine (heldLedger_any _ _ _ 1 _ (by omega) (by omega) (by omega) (OwnR.recs cPosting_len g9_R0)).mono ?_
    rintro e w14 ⟨rfl, hs14⟩
    clear haL_0 hap_0 hap_1 hap_2 hap_3 hw0_0 hg0_0 hh0_0
    replace haL := BoxAt.same haL hs14
    replace hap := BoxAt.same hap hs14
    replace w_R0 := OwnR.same w_R0 hs14
    replace hw0 := BoxAt.same hw0 hs14
    replace g9_R0 := OwnR.same g9_R0 hs14
    replace hg0 := BoxAt.same hg0 hs14
    replace h_R0 := OwnR.same h_R0 hs14
    replace hh0 := BoxAt.same hh0 hs14
    have n14 := Same.size hs14
    have S14 : Same w w14 := Same.trans S13 hs14
    clear hs14 S13
    have haL_0 := haL.cell 0 rfl
    have hap_0 := hap.cell 0 rfl
    have hap_1 := hap.cell 1 rfl
    have hap_2 := hap.cell 2 rfl
    have hap_3 := hap.cell 3 rfl
    have hw0_0 := hw0.cell 0 rfl
    have hg0_0 := hg0.cell 0 rfl
    have hh0_0 := hh0.cell 0 rfl
    go_wp2_with fail
    go_ret
    exact ⟨rfl, S14⟩
  · go_enter Try.func10, Try.ntmps10
    go_wp2_with fail
    have haL : BoxAt ((w.alloc (.cells #[.slice AL L.length cL] 33)).alloc (.cells #[.int .i64 p0, .int .i64 p1, .int .i64 p2, .int .i64 p3] 23)) (w.heap.size) 33 [.slice AL L.length cL] := by simpa using (BoxAt.alloc (BoxAt.new w 33 [.slice AL L.length cL]) (.cells #[.int .i64 p0, .int .i64 p1, .int .i64 p2, .int .i64 p3] 23))
    have hap : BoxAt ((w.alloc (.cells #[.slice AL L.length cL] 33)).alloc (.cells #[.int .i64 p0, .int .i64 p1, .int .i64 p2, .int .i64 p3] 23)) (w.heap.size + 1) 23 [.int .i64 p0, .int .i64 p1, .int .i64 p2, .int .i64 p3] := by simpa using (BoxAt.new (w.alloc (.cells #[.slice AL L.length cL] 33)) 23 [.int .i64 p0, .int .i64 p1, .int .i64 p2, .int .i64 p3])
    have hs0 := (Same.alloc (Same.alloc (Same.refl w) (.cells #[.slice AL L.length cL] 33)) (.cells #[.int .i64 p0, .int .i64 p1, .int .i64 p2, .int .i64 p3] 23))
    have m0 : w.heap.size + 2 ≤ ((w.alloc (.cells #[.slice AL L.length cL] 33)).alloc (.cells #[.int .i64 p0, .int .i64 p1, .int .i64 p2, .int .i64 p3] 23)).heap.size := by simp
    generalize ((w.alloc (.cells #[.slice AL L.length cL] 33)).alloc (.cells #[.int .i64 p0, .int .i64 p1, .int .i64 p2, .int .i64 p3] 23)) = w0 at *
    have n0 := Same.size hs0
    have S0 : Same w w0 := Same.trans (Same.refl w) hs0
    clear hs0
    refine (szLedger_any AL L.length cL 1048576 _ hzL (by omega) (by omega)).mono ?_
    rintro e w1 ⟨rfl, hs1⟩
    replace haL := BoxAt.same haL hs1
    replace hap := BoxAt.same hap hs1
    have n1 := Same.size hs1
    have S1 : Same w w1 := Same.trans S0 hs1
    clear hs1 S0
    rw [if_neg (show ¬ (L.length : Int) ≤ 1048576 by omega)]
    go_wp2
    go_ret
    exact ⟨rfl, S1⟩
end Go.Proofs.Ythelclibokkdnaa
