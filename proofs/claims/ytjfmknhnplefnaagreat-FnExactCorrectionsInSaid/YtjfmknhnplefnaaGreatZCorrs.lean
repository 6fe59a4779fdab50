/-
  Lists of corrections, either side.
-/
import Derived.Test.YtjfmknhnplefnaaGreatZEnts
import Derived.Test.YtjfmknhnplefnaaGreatZCorrRec
import Derived.Deep.RegionLaw
namespace Go.Proofs.YtjfmknhnplefnaaGreat
open Go.RowKit
set_option linter.unusedVariables false
set_option linter.unusedSimpArgs false

theorem ents_in {D : TCase} {f t known : Int} {k : Nat} (h : k < (ents D f t known).length) : 0 ≤ f ∧ f ≤ 3600 ∧ (ents D f t known).length ≤ 240 := by
  have hs := ents_short D f t known
  rw [ents_length] at h
  split at h
  · rename_i ho
    have := entsOk_len ho
    omega
  · omega

set_option maxRecDepth 100000 in
set_option maxHeartbeats 8000000 in
theorem sCorrs_any (D : TCase) (m : CMem) (f t a b : Int) (w : World) (hD : D.Small 1048576) (hcap : D.R.length ≤ m.rc) (hA : CaseAt w D m) :
    Calls Tryz.prog 40 #[.agg #[.slice m.r D.R.length m.rc, .slice m.f D.F.length m.fc, .slice m.p D.P.length m.pc, .int .i64 D.birth, .int .i64 D.joined, .slice m.s D.S.length m.sc, .slice m.e D.E.length m.ec], .int .i64 f, .int .i64 t, .int .i64 a, .int .i64 b] w (RetR 55 3 cCorrection w (corrs D f t a b)) := by
  have HR := Lib.hid (fun (k : Nat) => ents_in (D := D) (f := f) (t := t) (known := a) (k := k))
  have HL := Lib.hid (ents_alike D f t a b)
  have HC := Lib.hid (show corrs D f t a b = corrTo f (ents D f t a) (ents D f t b) (ents D f t a).length from rfl)
  have H0 := Lib.hid (ents_short D f t a)
  go_enter Tryz.func40, Tryz.ntmps40
  go_wp2_with fail
  have hem := OwnR.empty 55 3 cCorrection (w.alloc (.cells #[.slice m.r D.R.length m.rc, .slice m.f D.F.length m.fc, .slice m.p D.P.length m.pc, .int .i64 D.birth, .int .i64 D.joined, .slice m.s D.S.length m.sc, .slice m.e D.E.length m.ec] 38)) (Nat.le_refl _)
  simp only [World.size_alloc] at hem
  have h1 : BoxAt ((w.alloc (.cells #[.slice m.r D.R.length m.rc, .slice m.f D.F.length m.fc, .slice m.p D.P.length m.pc, .int .i64 D.birth, .int .i64 D.joined, .slice m.s D.S.length m.sc, .slice m.e D.E.length m.ec] 38)).alloc (.cells #[] 55)) (w.heap.size) 38 [.slice m.r D.R.length m.rc, .slice m.f D.F.length m.fc, .slice m.p D.P.length m.pc, .int .i64 D.birth, .int .i64 D.joined, .slice m.s D.S.length m.sc, .slice m.e D.E.length m.ec] := by simpa using (BoxAt.alloc (BoxAt.new w 38 [.slice m.r D.R.length m.rc, .slice m.f D.F.length m.fc, .slice m.p D.P.length m.pc, .int .i64 D.birth, .int .i64 D.joined, .slice m.s D.S.length m.sc, .slice m.e D.E.length m.ec]) (.cells #[] 55))
  have S0 := (Same.alloc (Same.alloc (Same.refl w) (.cells #[.slice m.r D.R.length m.rc, .slice m.f D.F.length m.fc, .slice m.p D.P.length m.pc, .int .i64 D.birth, .int .i64 D.joined, .slice m.s D.S.length m.sc, .slice m.e D.E.length m.ec] 38)) (.cells #[] 55))
  generalize ((w.alloc (.cells #[.slice m.r D.R.length m.rc, .slice m.f D.F.length m.fc, .slice m.p D.P.length m.pc, .int .i64 D.birth, .int .i64 D.joined, .slice m.s D.S.length m.sc, .slice m.e D.E.length m.ec] 38)).alloc (.cells #[] 55)) = w0 at *
  refine (sEnts_any D m f t a _ hD hcap (hA.same S0)).mono ?_
  rintro en w1 ⟨A1, c1, rfl, o1, hs1⟩
  have S1 := S0.trans hs1
  replace h1 := h1.same hs1
  have q1 := Sep.new hem o1 (Nat.le_refl _)
  replace hem := OwnR.same hem hs1
  clear hs1 S0
  have a0 := h1.cell 0 rfl
  have a1 := h1.cell 1 rfl
  have a2 := h1.cell 2 rfl
  have a3 := h1.cell 3 rfl
  have a4 := h1.cell 4 rfl
  have a5 := h1.cell 5 rfl
  have a6 := h1.cell 6 rfl
  have aL := h1.lt
  go_wp2_with fail
  clear a0 a1 a2 a3 a4 a5 a6 aL
  refine (sEnts_any D m f t b _ hD hcap (hA.same S1)).mono ?_
  rintro en w2 ⟨A2, c2, rfl, o2, hs2⟩
  have S2 := S1.trans hs2
  have q2 := Sep.new hem o2 (Nat.le_refl _)
  replace hem := OwnR.same hem hs2
  replace o1 := OwnI.same o1 hs2
  clear hs2 S1 h1 hA
  obtain ⟨X, hX⟩ : ∃ X, X = ents D f t a := ⟨_, rfl⟩
  obtain ⟨Y, hY⟩ : ∃ Y, Y = ents D f t b := ⟨_, rfl⟩
  rw [← hX] at HR HL HC H0 ⊢
  rw [← hY] at HL HC ⊢
  rw [← hX] at o1 q1
  rw [← hY] at o2 q2
  clear hX hY
  go_wp2
  go_loopw [11, 14] (fun v i wr => ∃ k : Nat, k ≤ X.length ∧ i = .int .i64 k ∧ OwnCorrection wr (w.heap.size + 1) v (corrTo f X Y k) ∧ Sep v (.slice A1 X.length c1) ∧ Sep v (.slice A2 Y.length c2) ∧ OwnI wr w0.heap.size (.slice A1 X.length c1) X ∧ OwnI wr w1.heap.size (.slice A2 Y.length c2) Y ∧ Same w wr) (fun _ i _ => X.length - (intOf i).toNat)
  case atStart => exact ⟨0, Nat.zero_le _, rfl, hem, q1, q2, o1, o2, S2⟩
  case round =>
    clear hem q1 q2 o1 o2 S2
    obtain ⟨k, hk, rfl, hown, q1, q2, o1, o2, hs⟩ := hrel
    have n0 := hs.size
    by_cases hlt : k < X.length
    · obtain ⟨x, hx⟩ : ∃ x, X[k]? = some x := ⟨_, List.getElem?_eq_getElem hlt⟩
      obtain ⟨y, hy⟩ : ∃ y, Y[k]? = some y := ⟨_, List.getElem?_eq_getElem (by have := HL.out; omega)⟩
      obtain ⟨g1, rfl, b1, l1, cx, _, _⟩ := OwnI.at_ o1 hx
      obtain ⟨g2, rfl, b2, l2, cy, _, _⟩ := OwnI.at_ o2 hy
      have hf := HR.out k hlt
      have HX := Lib.hid hx
      have HY := Lib.hid hy
      clear hx hy
      have p0 : (0 : Int) ≤ (k : Int) := by omega
      have p1 : (k : Int) < (X.length : Int) := by omega
      have p2 : (k : Int) < (Y.length : Int) := by have := HL.out; omega
      by_cases hxy : x = y
      · have HS := Lib.hid (corrTo_eq (f := f) HX.out (by rw [hxy]; exact HY.out))
        subst hxy
        rw [← HS.out] at hown
        go_wp2
        go_region
        have hd := (Same.refl wr).drew
        replace cx := (hd.cell (p := ⟨g1, k, none⟩) l1).trans cx
        replace cy := (hd.cell (p := ⟨g2, k, none⟩) l2).trans cy
        replace hown := OwnR.same hown hd
        replace o1 := OwnI.same o1 hd
        replace o2 := OwnI.same o2 hd
        replace l1 : g1 < wr.drew.heap.size := l1
        replace l2 : g2 < wr.drew.heap.size := l2
        replace hs := hs.trans hd
        replace n0 := hs.size
        clear hd
        generalize wr.drew = wr at *
        go_wp2
        go_roundw
        case rel => exact ⟨k + 1, hlt, by go_num, hown, q1, q2, o1, o2, hs⟩
        case measure => simp [intOf]; omega
      · have HS := Lib.hid (corrTo_ne (f := f) HX.out HY.out hxy)
        have hml := corrTo_length f X Y k
        obtain ⟨M, hM⟩ : ∃ M, M = corrTo f X Y k := ⟨_, rfl⟩
        rw [← hM] at hown HS hml
        clear hM
        go_wp2
        go_region
        have hd := (Same.refl wr).drew
        replace cx := (hd.cell (p := ⟨g1, k, none⟩) l1).trans cx
        replace cy := (hd.cell (p := ⟨g2, k, none⟩) l2).trans cy
        replace hown := OwnR.same hown hd
        replace o1 := OwnI.same o1 hd
        replace o2 := OwnI.same o2 hd
        replace l1 : g1 < wr.drew.heap.size := l1
        replace l2 : g2 < wr.drew.heap.size := l2
        replace hs := hs.trans hd
        replace n0 := hs.size
        clear hd
        generalize wr.drew = wr at *
        have kw : IntKind.i64.wrap (f + (k : Int)) = f + (k : Int) := IntWalk.i64_in _ (by omega)
        have hal0 := (Same.refl wr).alloc (.cells #[.int .i64 (f + (k : Int)), .int .i64 x, .int .i64 y] 55)
        have hown1 := OwnR.same hown hal0.drew
        go_wp2
        go_region_law ((refine step_oneCorrection _ (by rfl) (.tmp 47) (.tmp 60) (by rfl) (w.heap.size + 1) _ M (by rfl) hown1 wr.heap.size 1 (f + (k : Int), x, y) (by rfl) (by intro j u hu; exact cells_new rfl j u hu) (by omega) (by simp) (by simp; omega) ?_; intro v' w3 ho3 hup hfr))
        all_goals
          have hal := hal0.drew
          have e1 := grown_owns hup (OwnI.same o1 hal) q1
          have e2 := grown_owns hup (OwnI.same o2 hal) q2
          have r1 := Sep.from_ q1 hfr (OwnI.same o1 hal)
          have r2 := Sep.from_ q2 hfr (OwnI.same o2 hal)
          have S3 := grown_same (hs.trans hal) hup (fun g hg => by have := (owns_new (OwnR.same hown hal) g hg).1; omega)
          rw [← HS.out] at ho3
          clear hup hfr hown q1 q2 o1 o2 hs hal HS
          first
            | exact ⟨⟨k + 1, hlt, by go_num, ho3, r1, r2, e1, e2, S3⟩, by simp [intOf]; omega⟩
            | (go_wp2; exact ⟨⟨k + 1, hlt, by go_num, ho3, r1, r2, e1, e2, S3⟩, by simp [intOf]; omega⟩)
            | (go_wp2; go_roundw; (case rel => exact ⟨k + 1, hlt, by go_num, ho3, r1, r2, e1, e2, S3⟩); (case measure => simp [intOf]; omega))
    · have hk2 : k = X.length := by omega
      have hk3 : (Y.length : Int) = (k : Int) := by have := HL.out; omega
      go_wp2
      go_ret
      rw [HC.out, ← hk2]
      exact RetR.of (OwnR.rebase hown (by omega)) hs

set_option maxRecDepth 100000 in
set_option maxHeartbeats 8000000 in
theorem iCorrs_any (D : TCase) (m : CMem) (f t a b : Int) (w : World) (hD : D.Small 1048576) (hcap : D.R.length ≤ m.rc) (hA : CaseAt w D m) :
    Calls Tryz.prog 21 #[.agg #[.slice m.r D.R.length m.rc, .slice m.f D.F.length m.fc, .slice m.p D.P.length m.pc, .int .i64 D.birth, .int .i64 D.joined, .slice m.s D.S.length m.sc, .slice m.e D.E.length m.ec], .int .i64 f, .int .i64 t, .int .i64 a, .int .i64 b] w (RetR 55 3 cCorrection w (corrs D f t a b)) := by
  have HR := Lib.hid (fun (k : Nat) => ents_in (D := D) (f := f) (t := t) (known := a) (k := k))
  have HL := Lib.hid (ents_alike D f t a b)
  have HC := Lib.hid (show corrs D f t a b = corrTo f (ents D f t a) (ents D f t b) (ents D f t a).length from rfl)
  have H0 := Lib.hid (ents_short D f t a)
  go_enter Tryz.func21, Tryz.ntmps21
  go_wp2_with fail
  have hem := OwnR.empty 55 3 cCorrection (w.alloc (.cells #[.slice m.r D.R.length m.rc, .slice m.f D.F.length m.fc, .slice m.p D.P.length m.pc, .int .i64 D.birth, .int .i64 D.joined, .slice m.s D.S.length m.sc, .slice m.e D.E.length m.ec] 38)) (Nat.le_refl _)
  simp only [World.size_alloc] at hem
  have h1 : BoxAt ((w.alloc (.cells #[.slice m.r D.R.length m.rc, .slice m.f D.F.length m.fc, .slice m.p D.P.length m.pc, .int .i64 D.birth, .int .i64 D.joined, .slice m.s D.S.length m.sc, .slice m.e D.E.length m.ec] 38)).alloc (.cells #[] 55)) (w.heap.size) 38 [.slice m.r D.R.length m.rc, .slice m.f D.F.length m.fc, .slice m.p D.P.length m.pc, .int .i64 D.birth, .int .i64 D.joined, .slice m.s D.S.length m.sc, .slice m.e D.E.length m.ec] := by simpa using (BoxAt.alloc (BoxAt.new w 38 [.slice m.r D.R.length m.rc, .slice m.f D.F.length m.fc, .slice m.p D.P.length m.pc, .int .i64 D.birth, .int .i64 D.joined, .slice m.s D.S.length m.sc, .slice m.e D.E.length m.ec]) (.cells #[] 55))
  have S0 := (Same.alloc (Same.alloc (Same.refl w) (.cells #[.slice m.r D.R.length m.rc, .slice m.f D.F.length m.fc, .slice m.p D.P.length m.pc, .int .i64 D.birth, .int .i64 D.joined, .slice m.s D.S.length m.sc, .slice m.e D.E.length m.ec] 38)) (.cells #[] 55))
  generalize ((w.alloc (.cells #[.slice m.r D.R.length m.rc, .slice m.f D.F.length m.fc, .slice m.p D.P.length m.pc, .int .i64 D.birth, .int .i64 D.joined, .slice m.s D.S.length m.sc, .slice m.e D.E.length m.ec] 38)).alloc (.cells #[] 55)) = w0 at *
  refine (iEnts_any D m f t b _ hD hcap (hA.same S0)).mono ?_
  rintro en w1 ⟨A1, c1, rfl, o1, hs1⟩
  have S1 := S0.trans hs1
  replace h1 := h1.same hs1
  have q1 := Sep.new hem o1 (Nat.le_refl _)
  replace hem := OwnR.same hem hs1
  clear hs1 S0
  have a0 := h1.cell 0 rfl
  have a1 := h1.cell 1 rfl
  have a2 := h1.cell 2 rfl
  have a3 := h1.cell 3 rfl
  have a4 := h1.cell 4 rfl
  have a5 := h1.cell 5 rfl
  have a6 := h1.cell 6 rfl
  have aL := h1.lt
  go_wp2_with fail
  clear a0 a1 a2 a3 a4 a5 a6 aL
  refine (iEnts_any D m f t a _ hD hcap (hA.same S1)).mono ?_
  rintro en w2 ⟨A2, c2, rfl, o2, hs2⟩
  have S2 := S1.trans hs2
  have q2 := Sep.new hem o2 (Nat.le_refl _)
  replace hem := OwnR.same hem hs2
  replace o1 := OwnI.same o1 hs2
  clear hs2 S1 h1 hA
  obtain ⟨X, hX⟩ : ∃ X, X = ents D f t a := ⟨_, rfl⟩
  obtain ⟨Y, hY⟩ : ∃ Y, Y = ents D f t b := ⟨_, rfl⟩
  rw [← hX] at HR HL HC H0 ⊢
  rw [← hY] at HL HC ⊢
  rw [← hX] at o2 q2
  rw [← hY] at o1 q1
  clear hX hY
  go_wp2
  go_loopw [11, 27] (fun v i wr => ∃ k : Nat, k ≤ X.length ∧ i = .int .i64 k ∧ OwnCorrection wr (w.heap.size + 1) v (corrTo f X Y k) ∧ Sep v (.slice A2 X.length c2) ∧ Sep v (.slice A1 Y.length c1) ∧ OwnI wr w1.heap.size (.slice A2 X.length c2) X ∧ OwnI wr w0.heap.size (.slice A1 Y.length c1) Y ∧ Same w wr) (fun _ i _ => X.length - (intOf i).toNat)
  case atStart => exact ⟨0, Nat.zero_le _, rfl, hem, q2, q1, o2, o1, S2⟩
  case round =>
    clear hem q1 q2 o1 o2 S2
    obtain ⟨k, hk, rfl, hown, q1, q2, o1, o2, hs⟩ := hrel
    have n0 := hs.size
    by_cases hlt : k < X.length
    · obtain ⟨x, hx⟩ : ∃ x, X[k]? = some x := ⟨_, List.getElem?_eq_getElem hlt⟩
      obtain ⟨y, hy⟩ : ∃ y, Y[k]? = some y := ⟨_, List.getElem?_eq_getElem (by have := HL.out; omega)⟩
      obtain ⟨g1, rfl, b1, l1, cx, _, _⟩ := OwnI.at_ o1 hx
      obtain ⟨g2, rfl, b2, l2, cy, _, _⟩ := OwnI.at_ o2 hy
      have hf := HR.out k hlt
      have HX := Lib.hid hx
      have HY := Lib.hid hy
      clear hx hy
      have p0 : (0 : Int) ≤ (k : Int) := by omega
      have p1 : (k : Int) < (X.length : Int) := by omega
      have p2 : (k : Int) < (Y.length : Int) := by have := HL.out; omega
      by_cases hxy : x = y
      · have HS := Lib.hid (corrTo_eq (f := f) HX.out (by rw [hxy]; exact HY.out))
        subst hxy
        rw [← HS.out] at hown
        go_wp2
        go_roundw
        case rel => exact ⟨k + 1, hlt, by go_num, hown, q1, q2, o1, o2, hs⟩
        case measure => simp [intOf]; omega
      · have HS := Lib.hid (corrTo_ne (f := f) HX.out HY.out hxy)
        have hml := corrTo_length f X Y k
        obtain ⟨M, hM⟩ : ∃ M, M = corrTo f X Y k := ⟨_, rfl⟩
        rw [← hM] at hown HS hml
        clear hM
        go_wp2_with (at_builtin; refine wpList_of rfl fun _ hK => wp_oneCorrection _ (.tmp 38) (.tmp 48) rfl (w.heap.size + 1) _ M rfl (OwnR.alloc hown _) wr.heap.size 1 (f + (k : Int), x, y) rfl (cells_new rfl) (by omega) (by simp) (by simp; omega) (fun v' w3 ho3 hup hfr => hK _ _ ?_))
        have hal := (Same.refl wr).alloc (.cells #[.int .i64 (f + (k : Int)), .int .i64 x, .int .i64 y] 55)
        have e1 := grown_owns hup (OwnI.same o1 hal) q1
        have e2 := grown_owns hup (OwnI.same o2 hal) q2
        have r1 := Sep.from_ q1 hfr (OwnI.same o1 hal)
        have r2 := Sep.from_ q2 hfr (OwnI.same o2 hal)
        have S3 := grown_same (hs.trans hal) hup (fun g hg => by have := (owns_new (OwnR.same hown hal) g hg).1; omega)
        rw [← HS.out] at ho3
        clear hup hfr hown q1 q2 o1 o2 hs hal HS
        go_wp2
        go_roundw
        case rel => exact ⟨k + 1, hlt, by go_num, ho3, r1, r2, e1, e2, S3⟩
        case measure => simp [intOf]; omega
    · have hk2 : k = X.length := by omega
      have hk3 : (Y.length : Int) = (k : Int) := by have := HL.out; omega
      go_wp2
      go_ret
      rw [HC.out, ← hk2]
      exact RetR.of (OwnR.rebase hown (by omega)) hs
end Go.Proofs.YtjfmknhnplefnaaGreat
