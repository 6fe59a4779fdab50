/-
  FnExactCorrectionsIn: for every case, months and months of knowledge the program's CorrectionsIn is the reference's, and its memory is its own. No condition.
-/
import Derived.Test.YtjfmknhnplefnaaGreatZCorrs
import Derived.Test.YtjfmknhnplefnaaGreatZMarkCase
import Derived.Deep.RegionHeld3
namespace Go.Proofs.YtjfmknhnplefnaaGreat
open Go.RowKit
set_option linter.unusedVariables false

set_option maxRecDepth 10000 in
set_option maxHeartbeats 8000000 in
theorem lawCorrs (D : TCase) (m : CMem) (x : Int) (y : Int) (z : Int) (v : Int) (w : World) (hZ : D.Small 9223372036854775807) (hA : CaseAt w D m) (_ : (Lit.int .i64 x).wf = true) (_ : (Lit.int .i64 y).wf = true) (_ : (Lit.int .i64 z).wf = true) (_ : (Lit.int .i64 v).wf = true) :
    Calls Tryz.prog 9 #[.agg #[.slice m.r D.R.length m.rc, .slice m.f D.F.length m.fc, .slice m.p D.P.length m.pc, .int .i64 D.birth, .int .i64 D.joined, .slice m.s D.S.length m.sc, .slice m.e D.E.length m.ec], .int .i64 x, .int .i64 y, .int .i64 z, .int .i64 v] w fun e w' => e = .returned (.bool true) ∧ Same w w' := by
  by_cases hl : (D.sz : Int) ≤ 1048576
  · have hD : D.Small 1048576 := .of (by omega)
    have hn : ¬ 1048576 - (D.sz : Int) < 0 := by omega
    obtain ⟨R, hR⟩ : ∃ R, R = corrs D x y z v := ⟨_, rfl⟩
    have hlR : R.length ≤ 1000 := by rw [hR]; exact Nat.le_trans (corrs_short _ _ _ _ _) (by omega)
    have hzR : R.length ≤ 9223372036854775807 := by omega
    have HR := Lib.hid hR
    clear hR
    have hq : ((1 + (3 * (R.length : Int))) != (1 + (3 * (R.length : Int)))) = false := by simp
    have hq0 : ¬ (1 + (3 * (R.length : Int))) < 0 := by omega
    go_enter Tryz.func9, Tryz.ntmps9
    go_wp2_with fail
    have h1 : BoxAt (w.alloc (.cells #[.slice m.r D.R.length m.rc, .slice m.f D.F.length m.fc, .slice m.p D.P.length m.pc, .int .i64 D.birth, .int .i64 D.joined, .slice m.s D.S.length m.sc, .slice m.e D.E.length m.ec] 73)) (w.heap.size) 73 [.slice m.r D.R.length m.rc, .slice m.f D.F.length m.fc, .slice m.p D.P.length m.pc, .int .i64 D.birth, .int .i64 D.joined, .slice m.s D.S.length m.sc, .slice m.e D.E.length m.ec] := by simpa using (BoxAt.new w 73 [.slice m.r D.R.length m.rc, .slice m.f D.F.length m.fc, .slice m.p D.P.length m.pc, .int .i64 D.birth, .int .i64 D.joined, .slice m.s D.S.length m.sc, .slice m.e D.E.length m.ec])
    have hs0 := (Same.alloc (Same.refl w) (.cells #[.slice m.r D.R.length m.rc, .slice m.f D.F.length m.fc, .slice m.p D.P.length m.pc, .int .i64 D.birth, .int .i64 D.joined, .slice m.s D.S.length m.sc, .slice m.e D.E.length m.ec] 73))
    generalize (w.alloc (.cells #[.slice m.r D.R.length m.rc, .slice m.f D.F.length m.fc, .slice m.p D.P.length m.pc, .int .i64 D.birth, .int .i64 D.joined, .slice m.s D.S.length m.sc, .slice m.e D.E.length m.ec] 73)) = w0 at *
    have hA0 := hA.same hs0
    refine (szCase_yes D m 1048576 _ hZ (by omega) (by omega) hl hA0).mono ?_
    rintro e w1 ⟨rfl, t1⟩
    have a0 := (h1.same t1).cell 0 rfl
    have a1 := (h1.same t1).cell 1 rfl
    have a2 := (h1.same t1).cell 2 rfl
    have a3 := (h1.same t1).cell 3 rfl
    have a4 := (h1.same t1).cell 4 rfl
    have a5 := (h1.same t1).cell 5 rfl
    have a6 := (h1.same t1).cell 6 rfl
    go_wp2_with fail
    clear a0 a1 a2 a3 a4 a5 a6
    refine (toCase_any D m _ hD (hA0.same t1)).mono ?_
    rintro e w2 ⟨m1, rfl, o1, t2⟩
    have T2 := t1.trans t2
    go_wp2_with fail
    refine (sCorrs_any D m1 x y z v _ hD o1.rules.cap o1.at_).mono ?_
    rw [← HR.out]
    rintro e w3 ⟨A3, c3, rfl, r3, t3⟩
    have T3 := T2.trans t3
    have z3 := Zn.of r3
    clear o1 t1 t2
    have a0 := (h1.same T3).cell 0 rfl
    have a1 := (h1.same T3).cell 1 rfl
    have a2 := (h1.same T3).cell 2 rfl
    have a3 := (h1.same T3).cell 3 rfl
    have a4 := (h1.same T3).cell 4 rfl
    have a5 := (h1.same T3).cell 5 rfl
    have a6 := (h1.same T3).cell 6 rfl
    go_wp2_with fail
    clear a0 a1 a2 a3 a4 a5 a6
    refine (toCase_any D m _ hD (hA0.same T3)).mono ?_
    rintro e w5 ⟨m2, rfl, o2, t5⟩
    have T5 := T3.trans t5
    replace r3 := OwnR.same r3 t5
    have h2 := BoxAt.new w5 38 [.slice m2.r D.R.length m2.rc, .slice m2.f D.F.length m2.fc, .slice m2.p D.P.length m2.pc, .int .i64 D.birth, .int .i64 D.joined, .slice m2.s D.S.length m2.sc, .slice m2.e D.E.length m2.ec]
    have al := (Same.refl w5).alloc (.cells #[.slice m2.r D.R.length m2.rc, .slice m2.f D.F.length m2.fc, .slice m2.p D.P.length m2.pc, .int .i64 D.birth, .int .i64 D.joined, .slice m2.s D.S.length m2.sc, .slice m2.e D.E.length m2.ec] 38)
    have T6 := T5.trans al
    have n6 := h2.lt
    have o3 := o2.same al
    replace r3 := OwnR.same r3 al
    have n3 := t3.size
    have n0 := T2.size
    have n5 := t5.size
    go_wp2_with fail
    generalize w5.alloc (.cells #[.slice m2.r D.R.length m2.rc, .slice m2.f D.F.length m2.fc, .slice m2.p D.P.length m2.pc, .int .i64 D.birth, .int .i64 D.joined, .slice m2.s D.S.length m2.sc, .slice m2.e D.E.length m2.ec] 38) = w6 at *
    refine (iCorrs_any D m2 x y z v _ hD o3.rules.cap o3.at_).mono ?_
    rw [← HR.out]
    rintro e w7 ⟨A7, c7, rfl, r7, t7⟩
    have T7 := T6.trans t7
    have z7 := Zn.of r7
    replace r3 := OwnR.same r3 t7
    have n7 := t7.size
    have b0 := (h2.same t7).cell 0 rfl
    have b1 := (h2.same t7).cell 1 rfl
    have b2 := (h2.same t7).cell 2 rfl
    have b3 := (h2.same t7).cell 3 rfl
    have b4 := (h2.same t7).cell 4 rfl
    have b5 := (h2.same t7).cell 5 rfl
    have b6 := (h2.same t7).cell 6 rfl
    go_wp2_with fail
    clear b0 b1 b2 b3 b4 b5 b6
    refine (eqCorrectionS_any _ _ _ _ R R _ hzR hzR (OwnR.recs cCorrection_len r7) (OwnR.recs cCorrection_len r3)).mono ?_
    rintro e w8 ⟨rfl, hd⟩
    have hs := hd
    clear hd
    rw [decide_eq_true rfl]
    have T8 := T7.trans hs
    have s58 : Same w5 w8 := (al.trans t7).trans hs
    have h8 := (h2.same t7).same hs
    replace r3 := OwnR.same r3 hs
    replace r7 := OwnR.same r7 hs
    clear hs h2 t7
    have hK := Lib.hid (fun (w' : World) (hw' : Same w8 w') => show Same w8 w' ∧ w'.cell? ⟨w.heap.size, 0, none⟩ = some (.slice m.r D.R.length m.rc) ∧ w'.cell? ⟨w.heap.size, 1, none⟩ = some (.slice m.f D.F.length m.fc) ∧ w'.cell? ⟨w.heap.size, 2, none⟩ = some (.slice m.p D.P.length m.pc) ∧ w'.cell? ⟨w.heap.size, 3, none⟩ = some (.int .i64 D.birth) ∧ w'.cell? ⟨w.heap.size, 4, none⟩ = some (.int .i64 D.joined) ∧ w'.cell? ⟨w.heap.size, 5, none⟩ = some (.slice m.s D.S.length m.sc) ∧ w'.cell? ⟨w.heap.size, 6, none⟩ = some (.slice m.e D.E.length m.ec) ∧ w'.cell? ⟨w5.heap.size, 0, none⟩ = some (.slice m2.r D.R.length m2.rc) ∧ w'.cell? ⟨w5.heap.size, 1, none⟩ = some (.slice m2.f D.F.length m2.fc) ∧ w'.cell? ⟨w5.heap.size, 2, none⟩ = some (.slice m2.p D.P.length m2.pc) ∧ w'.cell? ⟨w5.heap.size, 3, none⟩ = some (.int .i64 D.birth) ∧ w'.cell? ⟨w5.heap.size, 4, none⟩ = some (.int .i64 D.joined) ∧ w'.cell? ⟨w5.heap.size, 5, none⟩ = some (.slice m2.s D.S.length m2.sc) ∧ w'.cell? ⟨w5.heap.size, 6, none⟩ = some (.slice m2.e D.E.length m2.ec) from ⟨hw', (h1.same (T8.trans hw')).cell 0 rfl, (h1.same (T8.trans hw')).cell 1 rfl, (h1.same (T8.trans hw')).cell 2 rfl, (h1.same (T8.trans hw')).cell 3 rfl, (h1.same (T8.trans hw')).cell 4 rfl, (h1.same (T8.trans hw')).cell 5 rfl, (h1.same (T8.trans hw')).cell 6 rfl, (h8.same hw').cell 0 rfl, (h8.same hw').cell 1 rfl, (h8.same hw').cell 2 rfl, (h8.same hw').cell 3 rfl, (h8.same hw').cell 4 rfl, (h8.same hw').cell 5 rfl, (h8.same hw').cell 6 rfl⟩)
    have HT := Lib.hid (fun (w' : World) (hw' : Same w8 w') => toCase_any D m w' hD (hA0.same (T8.trans hw')))
    have HQ := Lib.hid (fun (w' : World) (hw' : Same w8 w') => (o2.same (s58.trans hw')).at_)
    go_wp2
    go_region_held3 (fun w' => Same w8 w' ∧ w'.cell? ⟨w.heap.size, 0, none⟩ = some (.slice m.r D.R.length m.rc) ∧ w'.cell? ⟨w.heap.size, 1, none⟩ = some (.slice m.f D.F.length m.fc) ∧ w'.cell? ⟨w.heap.size, 2, none⟩ = some (.slice m.p D.P.length m.pc) ∧ w'.cell? ⟨w.heap.size, 3, none⟩ = some (.int .i64 D.birth) ∧ w'.cell? ⟨w.heap.size, 4, none⟩ = some (.int .i64 D.joined) ∧ w'.cell? ⟨w.heap.size, 5, none⟩ = some (.slice m.s D.S.length m.sc) ∧ w'.cell? ⟨w.heap.size, 6, none⟩ = some (.slice m.e D.E.length m.ec) ∧ w'.cell? ⟨w5.heap.size, 0, none⟩ = some (.slice m2.r D.R.length m2.rc) ∧ w'.cell? ⟨w5.heap.size, 1, none⟩ = some (.slice m2.f D.F.length m2.fc) ∧ w'.cell? ⟨w5.heap.size, 2, none⟩ = some (.slice m2.p D.P.length m2.pc) ∧ w'.cell? ⟨w5.heap.size, 3, none⟩ = some (.int .i64 D.birth) ∧ w'.cell? ⟨w5.heap.size, 4, none⟩ = some (.int .i64 D.joined) ∧ w'.cell? ⟨w5.heap.size, 5, none⟩ = some (.slice m2.s D.S.length m2.sc) ∧ w'.cell? ⟨w5.heap.size, 6, none⟩ = some (.slice m2.e D.E.length m2.ec))
      (first | exact hK.out _ (Same.refl _).drew | (go_split_ands; exact hK.out _ (Same.trans (by assumption) hs9)) | (go_split_ands; exact hK.out _ (Same.trans (by assumption) hs10)))
      (first
        | (go_split_ands; go_at_call 28; refine (HT.out _ (by assumption)).mono ?_; rintro e w9 ⟨m3, rfl, o8, hs9⟩)
        | (go_split_ands; go_at_call 30; refine (eqCase_same D m2 m3 _ hD (HQ.out _ (by assumption)) o8.at_).mono ?_; rintro e w10 ⟨rfl, hs10⟩))
    go_split_ands
    have u : Same w8 w10 := by assumption
    clear hK HT HQ
    have T10 := T8.trans u
    replace r3 := OwnR.same r3 u
    replace r7 := OwnR.same r7 u
    replace h8 := h8.same u
    have s10 := s58.trans u
    have kk := (o2.kinds hD).kin (Kin.same s10)
    have nn := s10.size
    clear u s58 s10
    have b0 := (h8).cell 0 rfl
    have b1 := (h8).cell 1 rfl
    have b2 := (h8).cell 2 rfl
    have b3 := (h8).cell 3 rfl
    have b4 := (h8).cell 4 rfl
    have b5 := (h8).cell 5 rfl
    have b6 := (h8).cell 6 rfl
    go_wp2_with fail
    clear b0 b1 b2 b3 b4 b5 b6
    refine (markCase_any D m2 _ _ _ hD kk nn).mono ?_
    rintro e w11 ⟨k, rfl, k0, u⟩
    replace r3 := OwnR.upd r3 u z3 (.inl (Nat.le_refl _))
    replace r7 := OwnR.upd r7 u z7 (.inr (by omega))
    have T11 := T10.upds u (by omega)
    clear u h8 kk nn o2 o3
    have k1 : ¬ k < 0 := by omega
    go_wp2_with fail
    refine (eqCorrectionS_any _ _ _ _ R R _ hzR hzR (OwnR.recs cCorrection_len r7) (OwnR.recs cCorrection_len r3)).mono ?_
    rintro e w12 ⟨rfl, hd⟩
    have hs := hd
    clear hd
    rw [decide_eq_true rfl]
    have T12 := T11.trans hs
    replace r3 := OwnR.same r3 hs
    replace r7 := OwnR.same r7 hs
    clear hs
    go_wp2_with fail
    refine (markCorrectionS_any _ _ _ R 1 _ _ rfl (by omega) (by omega) (by omega) r7 z7).mono ?_
    rintro e w13 ⟨rfl, r9, u⟩
    replace r3 := OwnR.upd r3 u z3 (.inl (by omega))
    have T13 := T12.upds u (by omega)
    clear u r7
    go_wp2_with fail
    refine (heldCorrectionS_any _ _ _ 1 _ (by omega) (by omega) (by omega) (OwnR.recs cCorrection_len r9)).mono ?_
    rintro e w14 ⟨rfl, hs⟩
    replace r3 := OwnR.same r3 hs
    replace r9 := OwnR.same r9 hs
    have T14 := T13.trans hs
    clear hs
    have a0 := (h1.same T14).cell 0 rfl
    have a1 := (h1.same T14).cell 1 rfl
    have a2 := (h1.same T14).cell 2 rfl
    have a3 := (h1.same T14).cell 3 rfl
    have a4 := (h1.same T14).cell 4 rfl
    have a5 := (h1.same T14).cell 5 rfl
    have a6 := (h1.same T14).cell 6 rfl
    go_wp2_with fail
    clear a0 a1 a2 a3 a4 a5 a6
    refine (toCase_any D m _ hD (hA0.same T14)).mono ?_
    rintro e w15 ⟨m4, rfl, o4, t15⟩
    have T15 := T14.trans t15
    replace r3 := OwnR.same r3 t15
    replace r9 := OwnR.same r9 t15
    go_wp2_with fail
    refine (iCorrs_any D m4 x y z v _ hD o4.rules.cap o4.at_).mono ?_
    rw [← HR.out]
    rintro e w16 ⟨A16, c16, rfl, r16, t16⟩
    have T16 := T15.trans t16
    replace r3 := OwnR.same r3 t16
    replace r9 := OwnR.same r9 t16
    go_wp2_with fail
    refine (eqCorrectionS_any _ _ _ _ R R _ hzR hzR (OwnR.recs cCorrection_len r16) (OwnR.recs cCorrection_len r3)).mono ?_
    rintro e w17 ⟨rfl, hd⟩
    have hs := hd
    clear hd
    rw [decide_eq_true rfl]
    have T17 := T16.trans hs
    replace r3 := OwnR.same r3 hs
    replace r9 := OwnR.same r9 hs
    clear hs
    go_wp2_with fail
    refine (heldCorrectionS_any _ _ _ 1 _ (by omega) (by omega) (by omega) (OwnR.recs cCorrection_len r9)).mono ?_
    rintro e w18 ⟨rfl, hs⟩
    replace r3 := OwnR.same r3 hs
    replace r9 := OwnR.same r9 hs
    have T18 := T17.trans hs
    clear hs
    go_wp2
    go_ret
    exact ⟨rfl, hs0.trans T18⟩
  · go_enter Tryz.func9, Tryz.ntmps9
    go_wp2_with fail
    have h1 : BoxAt (w.alloc (.cells #[.slice m.r D.R.length m.rc, .slice m.f D.F.length m.fc, .slice m.p D.P.length m.pc, .int .i64 D.birth, .int .i64 D.joined, .slice m.s D.S.length m.sc, .slice m.e D.E.length m.ec] 73)) (w.heap.size) 73 [.slice m.r D.R.length m.rc, .slice m.f D.F.length m.fc, .slice m.p D.P.length m.pc, .int .i64 D.birth, .int .i64 D.joined, .slice m.s D.S.length m.sc, .slice m.e D.E.length m.ec] := by simpa using (BoxAt.new w 73 [.slice m.r D.R.length m.rc, .slice m.f D.F.length m.fc, .slice m.p D.P.length m.pc, .int .i64 D.birth, .int .i64 D.joined, .slice m.s D.S.length m.sc, .slice m.e D.E.length m.ec])
    have hs0 := (Same.alloc (Same.refl w) (.cells #[.slice m.r D.R.length m.rc, .slice m.f D.F.length m.fc, .slice m.p D.P.length m.pc, .int .i64 D.birth, .int .i64 D.joined, .slice m.s D.S.length m.sc, .slice m.e D.E.length m.ec] 73))
    generalize (w.alloc (.cells #[.slice m.r D.R.length m.rc, .slice m.f D.F.length m.fc, .slice m.p D.P.length m.pc, .int .i64 D.birth, .int .i64 D.joined, .slice m.s D.S.length m.sc, .slice m.e D.E.length m.ec] 73)) = w0 at *
    refine (szCase_no D m 1048576 _ hZ (by omega) (by omega) (by omega) (hA.same hs0)).mono ?_
    rintro e w1 ⟨rfl, t1⟩
    go_wp2
    go_ret
    exact ⟨rfl, hs0.trans t1⟩
end Go.Proofs.YtjfmknhnplefnaaGreat
