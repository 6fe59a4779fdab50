/-
  FirstCorrection, either side, and the law of it.
-/
import Derived.Test.YtjfmknhnplefnaaGreatZCorrs
import Derived.Deep.RegionHeld3
namespace Go.Proofs.YtjfmknhnplefnaaGreat
open Go.RowKit
set_option linter.unusedVariables false
set_option linter.unusedSimpArgs false

set_option maxRecDepth 100000 in
set_option maxHeartbeats 4000000 in
theorem sFirst_any (D : TCase) (m : CMem) (f t a b : Int) (w : World) (hD : D.Small 1048576) (hcap : D.R.length ≤ m.rc) (hA : CaseAt w D m) :
    Calls Tryz.prog 35 #[.agg #[.slice m.r D.R.length m.rc, .slice m.f D.F.length m.fc, .slice m.p D.P.length m.pc, .int .i64 D.birth, .int .i64 D.joined, .slice m.s D.S.length m.sc, .slice m.e D.E.length m.ec], .int .i64 f, .int .i64 t, .int .i64 a, .int .i64 b] w fun e w' => e = .returned (.int .i64 (firstOf (corrs D f t a b))) ∧ Same w w' := by
  have H0 := Lib.hid (corrs_short D f t a b)
  go_enter Tryz.func35, Tryz.ntmps35
  go_wp2_with fail
  have h1 : BoxAt (w.alloc (.cells #[.slice m.r D.R.length m.rc, .slice m.f D.F.length m.fc, .slice m.p D.P.length m.pc, .int .i64 D.birth, .int .i64 D.joined, .slice m.s D.S.length m.sc, .slice m.e D.E.length m.ec] 38)) (w.heap.size) 38 [.slice m.r D.R.length m.rc, .slice m.f D.F.length m.fc, .slice m.p D.P.length m.pc, .int .i64 D.birth, .int .i64 D.joined, .slice m.s D.S.length m.sc, .slice m.e D.E.length m.ec] := by simpa using (BoxAt.new w 38 [.slice m.r D.R.length m.rc, .slice m.f D.F.length m.fc, .slice m.p D.P.length m.pc, .int .i64 D.birth, .int .i64 D.joined, .slice m.s D.S.length m.sc, .slice m.e D.E.length m.ec])
  have S0 := (Same.alloc (Same.refl w) (.cells #[.slice m.r D.R.length m.rc, .slice m.f D.F.length m.fc, .slice m.p D.P.length m.pc, .int .i64 D.birth, .int .i64 D.joined, .slice m.s D.S.length m.sc, .slice m.e D.E.length m.ec] 38))
  generalize (w.alloc (.cells #[.slice m.r D.R.length m.rc, .slice m.f D.F.length m.fc, .slice m.p D.P.length m.pc, .int .i64 D.birth, .int .i64 D.joined, .slice m.s D.S.length m.sc, .slice m.e D.E.length m.ec] 38)) = w0 at *
  refine (sCorrs_any D m f t a b _ hD hcap (hA.same S0)).mono ?_
  rintro en w1 ⟨A, c, rfl, o1, hs1⟩
  have S1 := S0.trans hs1
  clear hs1 S0 h1
  obtain ⟨L, hL⟩ : ∃ L, L = corrs D f t a b := ⟨_, rfl⟩
  rw [← hL] at H0 o1 ⊢
  have HLL := Lib.hid hL
  clear hL
  have hl := H0.out
  rcases L with _ | ⟨x, L⟩
  · go_wp2
    go_ret
    exact ⟨by rw [← HLL.out]; rfl, S1⟩
  · obtain ⟨g1, rfl, b1, l1, cx, _⟩ := OwnR.at_ cCorrection_len o1 (k := 0) (x := x) rfl
    obtain ⟨f0, f1, f2⟩ := x
    have c0 := cx 0 _ rfl
    simp only [Nat.zero_mul, Nat.add_zero] at c0
    have p1 : (0 : Int) < ((((f0, f1, f2) :: L).length : Nat) : Int) := by rw [List.length_cons]; omega
    have p2 : ((((((f0, f1, f2) :: L).length : Nat) : Int)) == 0) = false := by rw [List.length_cons, beq_eq_false_iff_ne]; omega
    clear cx o1
    go_wp2
    go_ret
    exact ⟨by rw [← HLL.out]; rfl, S1⟩

set_option maxRecDepth 100000 in
set_option maxHeartbeats 4000000 in
theorem iFirst_any (D : TCase) (m : CMem) (f t a b : Int) (w : World) (hD : D.Small 1048576) (hcap : D.R.length ≤ m.rc) (hA : CaseAt w D m) :
    Calls Tryz.prog 22 #[.agg #[.slice m.r D.R.length m.rc, .slice m.f D.F.length m.fc, .slice m.p D.P.length m.pc, .int .i64 D.birth, .int .i64 D.joined, .slice m.s D.S.length m.sc, .slice m.e D.E.length m.ec], .int .i64 f, .int .i64 t, .int .i64 a, .int .i64 b] w fun e w' => e = .returned (.int .i64 (firstOf (corrs D f t a b))) ∧ Same w w' := by
  have H0 := Lib.hid (corrs_short D f t a b)
  go_enter Tryz.func22, Tryz.ntmps22
  go_wp2_with fail
  have h1 : BoxAt (w.alloc (.cells #[.slice m.r D.R.length m.rc, .slice m.f D.F.length m.fc, .slice m.p D.P.length m.pc, .int .i64 D.birth, .int .i64 D.joined, .slice m.s D.S.length m.sc, .slice m.e D.E.length m.ec] 38)) (w.heap.size) 38 [.slice m.r D.R.length m.rc, .slice m.f D.F.length m.fc, .slice m.p D.P.length m.pc, .int .i64 D.birth, .int .i64 D.joined, .slice m.s D.S.length m.sc, .slice m.e D.E.length m.ec] := by simpa using (BoxAt.new w 38 [.slice m.r D.R.length m.rc, .slice m.f D.F.length m.fc, .slice m.p D.P.length m.pc, .int .i64 D.birth, .int .i64 D.joined, .slice m.s D.S.length m.sc, .slice m.e D.E.length m.ec])
  have S0 := (Same.alloc (Same.refl w) (.cells #[.slice m.r D.R.length m.rc, .slice m.f D.F.length m.fc, .slice m.p D.P.length m.pc, .int .i64 D.birth, .int .i64 D.joined, .slice m.s D.S.length m.sc, .slice m.e D.E.length m.ec] 38))
  generalize (w.alloc (.cells #[.slice m.r D.R.length m.rc, .slice m.f D.F.length m.fc, .slice m.p D.P.length m.pc, .int .i64 D.birth, .int .i64 D.joined, .slice m.s D.S.length m.sc, .slice m.e D.E.length m.ec] 38)) = w0 at *
  refine (iCorrs_any D m f t a b _ hD hcap (hA.same S0)).mono ?_
  rintro en w1 ⟨A, c, rfl, o1, hs1⟩
  have S1 := S0.trans hs1
  clear hs1 S0 h1
  obtain ⟨L, hL⟩ : ∃ L, L = corrs D f t a b := ⟨_, rfl⟩
  rw [← hL] at H0 o1 ⊢
  have HLL := Lib.hid hL
  clear hL
  have hl := H0.out
  rcases L with _ | ⟨x, L⟩
  · go_wp2
    go_ret
    exact ⟨by rw [← HLL.out]; rfl, S1⟩
  · obtain ⟨g1, rfl, b1, l1, cx, _⟩ := OwnR.at_ cCorrection_len o1 (k := 0) (x := x) rfl
    obtain ⟨f0, f1, f2⟩ := x
    have c0 := cx 0 _ rfl
    simp only [Nat.zero_mul, Nat.add_zero] at c0
    have p1 : (0 : Int) < ((((f0, f1, f2) :: L).length : Nat) : Int) := by rw [List.length_cons]; omega
    have p2 : ((((((f0, f1, f2) :: L).length : Nat) : Int)) == 0) = false := by rw [List.length_cons, beq_eq_false_iff_ne]; omega
    clear cx o1
    go_wp2
    go_ret
    exact ⟨by rw [← HLL.out]; rfl, S1⟩

set_option maxRecDepth 10000 in
set_option maxHeartbeats 4000000 in
theorem lawFirst (D : TCase) (m : CMem) (x : Int) (y : Int) (z : Int) (v : Int) (w : World) (hZ : D.Small 9223372036854775807) (hA : CaseAt w D m) (_ : (Lit.int .i64 x).wf = true) (_ : (Lit.int .i64 y).wf = true) (_ : (Lit.int .i64 z).wf = true) (_ : (Lit.int .i64 v).wf = true) :
    Calls Tryz.prog 7 #[.agg #[.slice m.r D.R.length m.rc, .slice m.f D.F.length m.fc, .slice m.p D.P.length m.pc, .int .i64 D.birth, .int .i64 D.joined, .slice m.s D.S.length m.sc, .slice m.e D.E.length m.ec], .int .i64 x, .int .i64 y, .int .i64 z, .int .i64 v] w fun e w' => e = .returned (.bool true) ∧ Same w w' := by
  by_cases hl : (D.sz : Int) ≤ 1048576
  · have hD : D.Small 1048576 := .of (by omega)
    have hn : ¬ 1048576 - (D.sz : Int) < 0 := by omega
    have hE := Lib.hid (show (firstOf (corrs D x y z v) != firstOf (corrs D x y z v)) = false by simp)
    go_enter Tryz.func7, Tryz.ntmps7
    go_wp2_with fail
    have h1 : BoxAt (w.alloc (.cells #[.slice m.r D.R.length m.rc, .slice m.f D.F.length m.fc, .slice m.p D.P.length m.pc, .int .i64 D.birth, .int .i64 D.joined, .slice m.s D.S.length m.sc, .slice m.e D.E.length m.ec] 73)) (w.heap.size) 73 [.slice m.r D.R.length m.rc, .slice m.f D.F.length m.fc, .slice m.p D.P.length m.pc, .int .i64 D.birth, .int .i64 D.joined, .slice m.s D.S.length m.sc, .slice m.e D.E.length m.ec] := by simpa using (BoxAt.new w 73 [.slice m.r D.R.length m.rc, .slice m.f D.F.length m.fc, .slice m.p D.P.length m.pc, .int .i64 D.birth, .int .i64 D.joined, .slice m.s D.S.length m.sc, .slice m.e D.E.length m.ec])
    have hs0 := (Same.alloc (Same.refl w) (.cells #[.slice m.r D.R.length m.rc, .slice m.f D.F.length m.fc, .slice m.p D.P.length m.pc, .int .i64 D.birth, .int .i64 D.joined, .slice m.s D.S.length m.sc, .slice m.e D.E.length m.ec] 73))
    generalize (w.alloc (.cells #[.slice m.r D.R.length m.rc, .slice m.f D.F.length m.fc, .slice m.p D.P.length m.pc, .int .i64 D.birth, .int .i64 D.joined, .slice m.s D.S.length m.sc, .slice m.e D.E.length m.ec] 73)) = w0 at *
    have hA0 := hA.same hs0
    refine (szCase_yes D m 1048576 _ hZ (by omega) (by omega) hl hA0).mono ?_
    rintro e w1 ⟨rfl, t1⟩
    have a0 := (h1.same t1).cell 0 rfl
    have a1 := (h1.same t1).cell 1 rfl
    have a2 := (h1.same t1).cell 2 rfl
    have a3 := (h1.same t1).cell 3 rfl
    have a4 := (h1.same t1).cell 4 rfl
    have a5 := (h1.same t1).cell 5 rfl
    have a6 := (h1.same t1).cell 6 rfl
    go_wp2_with fail
    clear a0 a1 a2 a3 a4 a5 a6
    refine (toCase_any D m _ hD (hA0.same t1)).mono ?_
    rintro e w2 ⟨m1, rfl, o1, t2⟩
    have T2 := t1.trans t2
    go_wp2_with fail
    refine (sFirst_any D m1 x y z v _ hD o1.rules.cap o1.at_).mono ?_
    rintro e w3 ⟨rfl, t3⟩
    have T3 := T2.trans t3
    have a0 := (h1.same T3).cell 0 rfl
    have a1 := (h1.same T3).cell 1 rfl
    have a2 := (h1.same T3).cell 2 rfl
    have a3 := (h1.same T3).cell 3 rfl
    have a4 := (h1.same T3).cell 4 rfl
    have a5 := (h1.same T3).cell 5 rfl
    have a6 := (h1.same T3).cell 6 rfl
    go_wp2_with fail
    clear a0 a1 a2 a3 a4 a5 a6
    refine (toCase_any D m _ hD (hA0.same T3)).mono ?_
    rintro e w5 ⟨m2, rfl, o2, t5⟩
    have T5 := T3.trans t5
    have h2 := BoxAt.new w5 38 [.slice m2.r D.R.length m2.rc, .slice m2.f D.F.length m2.fc, .slice m2.p D.P.length m2.pc, .int .i64 D.birth, .int .i64 D.joined, .slice m2.s D.S.length m2.sc, .slice m2.e D.E.length m2.ec]
    have al := (Same.refl w5).alloc (.cells #[.slice m2.r D.R.length m2.rc, .slice m2.f D.F.length m2.fc, .slice m2.p D.P.length m2.pc, .int .i64 D.birth, .int .i64 D.joined, .slice m2.s D.S.length m2.sc, .slice m2.e D.E.length m2.ec] 38)
    have T6 := T5.trans al
    have o3 := o2.same al
    have n6 := h2.lt
    go_wp2_with fail
    generalize w5.alloc (.cells #[.slice m2.r D.R.length m2.rc, .slice m2.f D.F.length m2.fc, .slice m2.p D.P.length m2.pc, .int .i64 D.birth, .int .i64 D.joined, .slice m2.s D.S.length m2.sc, .slice m2.e D.E.length m2.ec] 38) = w6 at *
    refine (iFirst_any D m2 x y z v _ hD o3.rules.cap o3.at_).mono ?_
    rintro e w7 ⟨rfl, t7⟩
    have T7 := T6.trans t7
    have HE := hE.out
    go_wp2
    clear HE
    have o7 := o3.same t7
    have hK := Lib.hid (fun (w' : World) (hw' : Same w7 w') => show Same w7 w' ∧ w'.cell? ⟨w.heap.size, 0, none⟩ = some (.slice m.r D.R.length m.rc) ∧ w'.cell? ⟨w.heap.size, 1, none⟩ = some (.slice m.f D.F.length m.fc) ∧ w'.cell? ⟨w.heap.size, 2, none⟩ = some (.slice m.p D.P.length m.pc) ∧ w'.cell? ⟨w.heap.size, 3, none⟩ = some (.int .i64 D.birth) ∧ w'.cell? ⟨w.heap.size, 4, none⟩ = some (.int .i64 D.joined) ∧ w'.cell? ⟨w.heap.size, 5, none⟩ = some (.slice m.s D.S.length m.sc) ∧ w'.cell? ⟨w.heap.size, 6, none⟩ = some (.slice m.e D.E.length m.ec) ∧ w'.cell? ⟨w5.heap.size, 0, none⟩ = some (.slice m2.r D.R.length m2.rc) ∧ w'.cell? ⟨w5.heap.size, 1, none⟩ = some (.slice m2.f D.F.length m2.fc) ∧ w'.cell? ⟨w5.heap.size, 2, none⟩ = some (.slice m2.p D.P.length m2.pc) ∧ w'.cell? ⟨w5.heap.size, 3, none⟩ = some (.int .i64 D.birth) ∧ w'.cell? ⟨w5.heap.size, 4, none⟩ = some (.int .i64 D.joined) ∧ w'.cell? ⟨w5.heap.size, 5, none⟩ = some (.slice m2.s D.S.length m2.sc) ∧ w'.cell? ⟨w5.heap.size, 6, none⟩ = some (.slice m2.e D.E.length m2.ec) from ⟨hw', (h1.same (T7.trans hw')).cell 0 rfl, (h1.same (T7.trans hw')).cell 1 rfl, (h1.same (T7.trans hw')).cell 2 rfl, (h1.same (T7.trans hw')).cell 3 rfl, (h1.same (T7.trans hw')).cell 4 rfl, (h1.same (T7.trans hw')).cell 5 rfl, (h1.same (T7.trans hw')).cell 6 rfl, ((h2.same t7).same hw').cell 0 rfl, ((h2.same t7).same hw').cell 1 rfl, ((h2.same t7).same hw').cell 2 rfl, ((h2.same t7).same hw').cell 3 rfl, ((h2.same t7).same hw').cell 4 rfl, ((h2.same t7).same hw').cell 5 rfl, ((h2.same t7).same hw').cell 6 rfl⟩)
    have HT := Lib.hid (fun (w' : World) (hw' : Same w7 w') => toCase_any D m w' hD (hA0.same (T7.trans hw')))
    go_region_held3 (fun w' => Same w7 w' ∧ w'.cell? ⟨w.heap.size, 0, none⟩ = some (.slice m.r D.R.length m.rc) ∧ w'.cell? ⟨w.heap.size, 1, none⟩ = some (.slice m.f D.F.length m.fc) ∧ w'.cell? ⟨w.heap.size, 2, none⟩ = some (.slice m.p D.P.length m.pc) ∧ w'.cell? ⟨w.heap.size, 3, none⟩ = some (.int .i64 D.birth) ∧ w'.cell? ⟨w.heap.size, 4, none⟩ = some (.int .i64 D.joined) ∧ w'.cell? ⟨w.heap.size, 5, none⟩ = some (.slice m.s D.S.length m.sc) ∧ w'.cell? ⟨w.heap.size, 6, none⟩ = some (.slice m.e D.E.length m.ec) ∧ w'.cell? ⟨w5.heap.size, 0, none⟩ = some (.slice m2.r D.R.length m2.rc) ∧ w'.cell? ⟨w5.heap.size, 1, none⟩ = some (.slice m2.f D.F.length m2.fc) ∧ w'.cell? ⟨w5.heap.size, 2, none⟩ = some (.slice m2.p D.P.length m2.pc) ∧ w'.cell? ⟨w5.heap.size, 3, none⟩ = some (.int .i64 D.birth) ∧ w'.cell? ⟨w5.heap.size, 4, none⟩ = some (.int .i64 D.joined) ∧ w'.cell? ⟨w5.heap.size, 5, none⟩ = some (.slice m2.s D.S.length m2.sc) ∧ w'.cell? ⟨w5.heap.size, 6, none⟩ = some (.slice m2.e D.E.length m2.ec))
      (first | exact hK.out _ (Same.refl _).drew | (go_split_ands; exact hK.out _ (Same.trans (by assumption) hs8)) | (go_split_ands; exact hK.out _ (Same.trans (by assumption) hs9)))
      (first
        | (go_split_ands; go_at_call 28; refine (HT.out _ (by assumption)).mono ?_; rintro e w8 ⟨m3, rfl, o8, hs8⟩)
        | (go_split_ands; go_at_call 30; refine (eqCase_same D m2 m3 _ hD (o7.at_.same (by assumption)) o8.at_).mono ?_; rintro e w9 ⟨rfl, hs9⟩))
    all_goals
      go_split_ands
      go_wp2
      go_ret
      exact ⟨rfl, (hs0.trans T7).trans (by assumption)⟩
  · go_enter Tryz.func7, Tryz.ntmps7
    go_wp2_with fail
    have h1 : BoxAt (w.alloc (.cells #[.slice m.r D.R.length m.rc, .slice m.f D.F.length m.fc, .slice m.p D.P.length m.pc, .int .i64 D.birth, .int .i64 D.joined, .slice m.s D.S.length m.sc, .slice m.e D.E.length m.ec] 73)) (w.heap.size) 73 [.slice m.r D.R.length m.rc, .slice m.f D.F.length m.fc, .slice m.p D.P.length m.pc, .int .i64 D.birth, .int .i64 D.joined, .slice m.s D.S.length m.sc, .slice m.e D.E.length m.ec] := by simpa using (BoxAt.new w 73 [.slice m.r D.R.length m.rc, .slice m.f D.F.length m.fc, .slice m.p D.P.length m.pc, .int .i64 D.birth, .int .i64 D.joined, .slice m.s D.S.length m.sc, .slice m.e D.E.length m.ec])
    have hs0 := (Same.alloc (Same.refl w) (.cells #[.slice m.r D.R.length m.rc, .slice m.f D.F.length m.fc, .slice m.p D.P.length m.pc, .int .i64 D.birth, .int .i64 D.joined, .slice m.s D.S.length m.sc, .slice m.e D.E.length m.ec] 73))
    generalize (w.alloc (.cells #[.slice m.r D.R.length m.rc, .slice m.f D.F.length m.fc, .slice m.p D.P.length m.pc, .int .i64 D.birth, .int .i64 D.joined, .slice m.s D.S.length m.sc, .slice m.e D.E.length m.ec] 73)) = w0 at *
    refine (szCase_no D m 1048576 _ hZ (by omega) (by omega) (by omega) (hA.same hs0)).mono ?_
    rintro e w1 ⟨rfl, t1⟩
    go_wp2
    go_ret
    exact ⟨rfl, hs0.trans t1⟩
end Go.Proofs.YtjfmknhnplefnaaGreat
