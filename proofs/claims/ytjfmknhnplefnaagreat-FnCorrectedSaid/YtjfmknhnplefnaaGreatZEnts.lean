/-
  Lists of entitlements, either side.
-/
import Derived.Test.YtjfmknhnplefnaaGreatZEntitle
import Derived.Test.YtjfmknhnplefnaaGreatZIntS
namespace Go.Proofs.YtjfmknhnplefnaaGreat
open Go.RowKit
set_option linter.unusedVariables false
set_option linter.unusedSimpArgs false

theorem ents_no {D : TCase} {f t known : Int} (h : entsOk D f t = false) : ents D f t known = [] := by unfold ents; rw [h]; rfl
theorem ents_yes {D : TCase} {f t known : Int} (h : entsOk D f t = true) : ents D f t known = entTo D f known (t - f).toNat := by unfold ents; rw [h]; rfl

set_option maxRecDepth 10000 in
set_option maxHeartbeats 4000000 in
theorem sEnts_any (D : TCase) (m : CMem) (f t known : Int) (w : World) (hD : D.Small 1048576) (hcap : D.R.length ≤ m.rc) (hA : CaseAt w D m) :
    Calls Tryz.prog 24 #[.agg #[.slice m.r D.R.length m.rc, .slice m.f D.F.length m.fc, .slice m.p D.P.length m.pc, .int .i64 D.birth, .int .i64 D.joined, .slice m.s D.S.length m.sc, .slice m.e D.E.length m.ec], .int .i64 f, .int .i64 t, .int .i64 known] w (RetI w (ents D f t known)) := by
  cases hok : D.ok
  · have HV := Lib.hid (ents_no (known := known) (show entsOk D f t = false by unfold entsOk; rw [hok]; rfl))
    have HOK := Lib.hid hok
    clear hok
    go_enter Tryz.func24, Tryz.ntmps24
    go_wp2_with fail
    have hem := OwnI.empty (w.alloc (.cells #[.slice m.r D.R.length m.rc, .slice m.f D.F.length m.fc, .slice m.p D.P.length m.pc, .int .i64 D.birth, .int .i64 D.joined, .slice m.s D.S.length m.sc, .slice m.e D.E.length m.ec] 38)) (Nat.le_refl _)
    simp only [World.size_alloc] at hem
    have h1 : BoxAt ((w.alloc (.cells #[.slice m.r D.R.length m.rc, .slice m.f D.F.length m.fc, .slice m.p D.P.length m.pc, .int .i64 D.birth, .int .i64 D.joined, .slice m.s D.S.length m.sc, .slice m.e D.E.length m.ec] 38)).alloc (.cells #[] 3)) (w.heap.size) 38 [.slice m.r D.R.length m.rc, .slice m.f D.F.length m.fc, .slice m.p D.P.length m.pc, .int .i64 D.birth, .int .i64 D.joined, .slice m.s D.S.length m.sc, .slice m.e D.E.length m.ec] := by simpa using (BoxAt.alloc (BoxAt.new w 38 [.slice m.r D.R.length m.rc, .slice m.f D.F.length m.fc, .slice m.p D.P.length m.pc, .int .i64 D.birth, .int .i64 D.joined, .slice m.s D.S.length m.sc, .slice m.e D.E.length m.ec]) (.cells #[] 3))
    have S0 := (Same.alloc (Same.alloc (Same.refl w) (.cells #[.slice m.r D.R.length m.rc, .slice m.f D.F.length m.fc, .slice m.p D.P.length m.pc, .int .i64 D.birth, .int .i64 D.joined, .slice m.s D.S.length m.sc, .slice m.e D.E.length m.ec] 38)) (.cells #[] 3))
    generalize ((w.alloc (.cells #[.slice m.r D.R.length m.rc, .slice m.f D.F.length m.fc, .slice m.p D.P.length m.pc, .int .i64 D.birth, .int .i64 D.joined, .slice m.s D.S.length m.sc, .slice m.e D.E.length m.ec] 38)).alloc (.cells #[] 3)) = w0 at *
    refine (sCaseOk_any D m _ hD hcap (hA.same S0)).mono ?_
    rw [HOK.out]
    rintro en w1 ⟨rfl, hs1⟩
    have S1 := S0.trans hs1
    replace h1 := h1.same hs1
    replace hem := OwnI.same hem hs1
    clear hs1 S0
    go_wp2
    go_ret
    rw [HV.out]
    exact ⟨_, _, rfl, OwnI.base hem (by omega), S1⟩
  cases m1 : inB f 0 3600
  · have HV := Lib.hid (ents_no (known := known) (show entsOk D f t = false by unfold entsOk endOk; rw [hok, m1]; rfl))
    have HOK := Lib.hid hok
    clear hok
    go_enter Tryz.func24, Tryz.ntmps24
    go_wp2_with fail
    have hem := OwnI.empty (w.alloc (.cells #[.slice m.r D.R.length m.rc, .slice m.f D.F.length m.fc, .slice m.p D.P.length m.pc, .int .i64 D.birth, .int .i64 D.joined, .slice m.s D.S.length m.sc, .slice m.e D.E.length m.ec] 38)) (Nat.le_refl _)
    simp only [World.size_alloc] at hem
    have h1 : BoxAt ((w.alloc (.cells #[.slice m.r D.R.length m.rc, .slice m.f D.F.length m.fc, .slice m.p D.P.length m.pc, .int .i64 D.birth, .int .i64 D.joined, .slice m.s D.S.length m.sc, .slice m.e D.E.length m.ec] 38)).alloc (.cells #[] 3)) (w.heap.size) 38 [.slice m.r D.R.length m.rc, .slice m.f D.F.length m.fc, .slice m.p D.P.length m.pc, .int .i64 D.birth, .int .i64 D.joined, .slice m.s D.S.length m.sc, .slice m.e D.E.length m.ec] := by simpa using (BoxAt.alloc (BoxAt.new w 38 [.slice m.r D.R.length m.rc, .slice m.f D.F.length m.fc, .slice m.p D.P.length m.pc, .int .i64 D.birth, .int .i64 D.joined, .slice m.s D.S.length m.sc, .slice m.e D.E.length m.ec]) (.cells #[] 3))
    have S0 := (Same.alloc (Same.alloc (Same.refl w) (.cells #[.slice m.r D.R.length m.rc, .slice m.f D.F.length m.fc, .slice m.p D.P.length m.pc, .int .i64 D.birth, .int .i64 D.joined, .slice m.s D.S.length m.sc, .slice m.e D.E.length m.ec] 38)) (.cells #[] 3))
    generalize ((w.alloc (.cells #[.slice m.r D.R.length m.rc, .slice m.f D.F.length m.fc, .slice m.p D.P.length m.pc, .int .i64 D.birth, .int .i64 D.joined, .slice m.s D.S.length m.sc, .slice m.e D.E.length m.ec] 38)).alloc (.cells #[] 3)) = w0 at *
    refine (sCaseOk_any D m _ hD hcap (hA.same S0)).mono ?_
    rw [HOK.out]
    rintro en w1 ⟨rfl, hs1⟩
    have S1 := S0.trans hs1
    replace h1 := h1.same hs1
    replace hem := OwnI.same hem hs1
    clear hs1 S0
    go_wp2_with fail
    refine (l04End_any f _).mono ?_
    rw [m1]
    rintro en w2 ⟨rfl, rfl⟩
    go_wp2
    go_ret
    rw [HV.out]
    exact ⟨_, _, rfl, OwnI.base hem (by omega), S1⟩
  cases m2 : inB t 0 3600
  · have HV := Lib.hid (ents_no (known := known) (show entsOk D f t = false by unfold entsOk endOk; rw [hok, m1, m2]; rfl))
    have HOK := Lib.hid hok
    clear hok
    go_enter Tryz.func24, Tryz.ntmps24
    go_wp2_with fail
    have hem := OwnI.empty (w.alloc (.cells #[.slice m.r D.R.length m.rc, .slice m.f D.F.length m.fc, .slice m.p D.P.length m.pc, .int .i64 D.birth, .int .i64 D.joined, .slice m.s D.S.length m.sc, .slice m.e D.E.length m.ec] 38)) (Nat.le_refl _)
    simp only [World.size_alloc] at hem
    have h1 : BoxAt ((w.alloc (.cells #[.slice m.r D.R.length m.rc, .slice m.f D.F.length m.fc, .slice m.p D.P.length m.pc, .int .i64 D.birth, .int .i64 D.joined, .slice m.s D.S.length m.sc, .slice m.e D.E.length m.ec] 38)).alloc (.cells #[] 3)) (w.heap.size) 38 [.slice m.r D.R.length m.rc, .slice m.f D.F.length m.fc, .slice m.p D.P.length m.pc, .int .i64 D.birth, .int .i64 D.joined, .slice m.s D.S.length m.sc, .slice m.e D.E.length m.ec] := by simpa using (BoxAt.alloc (BoxAt.new w 38 [.slice m.r D.R.length m.rc, .slice m.f D.F.length m.fc, .slice m.p D.P.length m.pc, .int .i64 D.birth, .int .i64 D.joined, .slice m.s D.S.length m.sc, .slice m.e D.E.length m.ec]) (.cells #[] 3))
    have S0 := (Same.alloc (Same.alloc (Same.refl w) (.cells #[.slice m.r D.R.length m.rc, .slice m.f D.F.length m.fc, .slice m.p D.P.length m.pc, .int .i64 D.birth, .int .i64 D.joined, .slice m.s D.S.length m.sc, .slice m.e D.E.length m.ec] 38)) (.cells #[] 3))
    generalize ((w.alloc (.cells #[.slice m.r D.R.length m.rc, .slice m.f D.F.length m.fc, .slice m.p D.P.length m.pc, .int .i64 D.birth, .int .i64 D.joined, .slice m.s D.S.length m.sc, .slice m.e D.E.length m.ec] 38)).alloc (.cells #[] 3)) = w0 at *
    refine (sCaseOk_any D m _ hD hcap (hA.same S0)).mono ?_
    rw [HOK.out]
    rintro en w1 ⟨rfl, hs1⟩
    have S1 := S0.trans hs1
    replace h1 := h1.same hs1
    replace hem := OwnI.same hem hs1
    clear hs1 S0
    go_wp2_with fail
    refine (l04End_any f _).mono ?_
    rw [m1]
    rintro en w2 ⟨rfl, rfl⟩
    go_wp2_with fail
    refine (l04End_any t _).mono ?_
    rw [m2]
    rintro en w2 ⟨rfl, rfl⟩
    go_wp2
    go_ret
    rw [HV.out]
    exact ⟨_, _, rfl, OwnI.base hem (by omega), S1⟩
  have hf := inB_iff.1 m1
  have ht := inB_iff.1 m2
  have M1 := Lib.hid m1
  have M2 := Lib.hid m2
  have HOK := Lib.hid hok
  by_cases m3 : t ≤ f + 240
  case neg =>
    have HV := Lib.hid (ents_no (known := known) (show entsOk D f t = false by unfold entsOk endOk; rw [hok, m1, m2]; simp [m3]))
    clear hok m1 m2
    go_enter Tryz.func24, Tryz.ntmps24
    go_wp2_with fail
    have hem := OwnI.empty (w.alloc (.cells #[.slice m.r D.R.length m.rc, .slice m.f D.F.length m.fc, .slice m.p D.P.length m.pc, .int .i64 D.birth, .int .i64 D.joined, .slice m.s D.S.length m.sc, .slice m.e D.E.length m.ec] 38)) (Nat.le_refl _)
    simp only [World.size_alloc] at hem
    have h1 : BoxAt ((w.alloc (.cells #[.slice m.r D.R.length m.rc, .slice m.f D.F.length m.fc, .slice m.p D.P.length m.pc, .int .i64 D.birth, .int .i64 D.joined, .slice m.s D.S.length m.sc, .slice m.e D.E.length m.ec] 38)).alloc (.cells #[] 3)) (w.heap.size) 38 [.slice m.r D.R.length m.rc, .slice m.f D.F.length m.fc, .slice m.p D.P.length m.pc, .int .i64 D.birth, .int .i64 D.joined, .slice m.s D.S.length m.sc, .slice m.e D.E.length m.ec] := by simpa using (BoxAt.alloc (BoxAt.new w 38 [.slice m.r D.R.length m.rc, .slice m.f D.F.length m.fc, .slice m.p D.P.length m.pc, .int .i64 D.birth, .int .i64 D.joined, .slice m.s D.S.length m.sc, .slice m.e D.E.length m.ec]) (.cells #[] 3))
    have S0 := (Same.alloc (Same.alloc (Same.refl w) (.cells #[.slice m.r D.R.length m.rc, .slice m.f D.F.length m.fc, .slice m.p D.P.length m.pc, .int .i64 D.birth, .int .i64 D.joined, .slice m.s D.S.length m.sc, .slice m.e D.E.length m.ec] 38)) (.cells #[] 3))
    generalize ((w.alloc (.cells #[.slice m.r D.R.length m.rc, .slice m.f D.F.length m.fc, .slice m.p D.P.length m.pc, .int .i64 D.birth, .int .i64 D.joined, .slice m.s D.S.length m.sc, .slice m.e D.E.length m.ec] 38)).alloc (.cells #[] 3)) = w0 at *
    refine (sCaseOk_any D m _ hD hcap (hA.same S0)).mono ?_
    rw [HOK.out]
    rintro en w1 ⟨rfl, hs1⟩
    have S1 := S0.trans hs1
    replace h1 := h1.same hs1
    replace hem := OwnI.same hem hs1
    clear hs1 S0
    go_wp2_with fail
    refine (l04End_any f _).mono ?_
    rw [M1.out]
    rintro en w2 ⟨rfl, rfl⟩
    go_wp2_with fail
    refine (l04End_any t _).mono ?_
    rw [M2.out]
    rintro en w2 ⟨rfl, rfl⟩
    go_wp2
    go_ret
    rw [HV.out]
    exact ⟨_, _, rfl, OwnI.base hem (by omega), S1⟩
  have HV := Lib.hid (ents_yes (known := known) (show entsOk D f t = true by unfold entsOk endOk; rw [hok, m1, m2]; simp [m3]))
  clear hok m1 m2
  go_enter Tryz.func24, Tryz.ntmps24
  go_wp2_with fail
  have hem := OwnI.empty (w.alloc (.cells #[.slice m.r D.R.length m.rc, .slice m.f D.F.length m.fc, .slice m.p D.P.length m.pc, .int .i64 D.birth, .int .i64 D.joined, .slice m.s D.S.length m.sc, .slice m.e D.E.length m.ec] 38)) (Nat.le_refl _)
  simp only [World.size_alloc] at hem
  have h1 : BoxAt ((w.alloc (.cells #[.slice m.r D.R.length m.rc, .slice m.f D.F.length m.fc, .slice m.p D.P.length m.pc, .int .i64 D.birth, .int .i64 D.joined, .slice m.s D.S.length m.sc, .slice m.e D.E.length m.ec] 38)).alloc (.cells #[] 3)) (w.heap.size) 38 [.slice m.r D.R.length m.rc, .slice m.f D.F.length m.fc, .slice m.p D.P.length m.pc, .int .i64 D.birth, .int .i64 D.joined, .slice m.s D.S.length m.sc, .slice m.e D.E.length m.ec] := by simpa using (BoxAt.alloc (BoxAt.new w 38 [.slice m.r D.R.length m.rc, .slice m.f D.F.length m.fc, .slice m.p D.P.length m.pc, .int .i64 D.birth, .int .i64 D.joined, .slice m.s D.S.length m.sc, .slice m.e D.E.length m.ec]) (.cells #[] 3))
  have S0 := (Same.alloc (Same.alloc (Same.refl w) (.cells #[.slice m.r D.R.length m.rc, .slice m.f D.F.length m.fc, .slice m.p D.P.length m.pc, .int .i64 D.birth, .int .i64 D.joined, .slice m.s D.S.length m.sc, .slice m.e D.E.length m.ec] 38)) (.cells #[] 3))
  generalize ((w.alloc (.cells #[.slice m.r D.R.length m.rc, .slice m.f D.F.length m.fc, .slice m.p D.P.length m.pc, .int .i64 D.birth, .int .i64 D.joined, .slice m.s D.S.length m.sc, .slice m.e D.E.length m.ec] 38)).alloc (.cells #[] 3)) = w0 at *
  refine (sCaseOk_any D m _ hD hcap (hA.same S0)).mono ?_
  rw [HOK.out]
  rintro en w1 ⟨rfl, hs1⟩
  have S1 := S0.trans hs1
  replace h1 := h1.same hs1
  replace hem := OwnI.same hem hs1
  clear hs1 S0
  go_wp2_with fail
  refine (l04End_any f _).mono ?_
  rw [M1.out]
  rintro en w2 ⟨rfl, rfl⟩
  go_wp2_with fail
  refine (l04End_any t _).mono ?_
  rw [M2.out]
  rintro en w2 ⟨rfl, rfl⟩
  go_wp2
  go_loopw [9, 10] (fun o i wr => ∃ k : Nat, k ≤ (t - f).toNat ∧ i = .int .i64 (f + (k : Int)) ∧ OwnI wr (w.heap.size + 1) o (entTo D f known k) ∧ BoxAt wr w.heap.size 38 [.slice m.r D.R.length m.rc, .slice m.f D.F.length m.fc, .slice m.p D.P.length m.pc, .int .i64 D.birth, .int .i64 D.joined, .slice m.s D.S.length m.sc, .slice m.e D.E.length m.ec] ∧ Same w wr) (fun _ i _ => (t - intOf i).toNat)
  case atStart => exact ⟨0, Nat.zero_le _, by simp, hem, h1, S1⟩
  case round =>
    clear hem h1 S1
    obtain ⟨k, hk, rfl, hown, h1, hs⟩ := hrel
    by_cases hlt : f + (k : Int) < t
    · have a0 := h1.cell 0 rfl
      have a1 := h1.cell 1 rfl
      have a2 := h1.cell 2 rfl
      have a3 := h1.cell 3 rfl
      have a4 := h1.cell 4 rfl
      have a5 := h1.cell 5 rfl
      have a6 := h1.cell 6 rfl
      have aL := h1.lt
      go_wp2_with fail
      clear a0 a1 a2 a3 a4 a5 a6 aL
      refine (l22At_any D m (f + (k : Int)) known _ hD hcap (hA.same hs) HOK.out).mono ?_
      have HS := Lib.hid (entTo_succ D f known k)
      have hl : (entTo D f known k).length ≤ 1000000000 := by rw [entTo_length]; omega
      obtain ⟨v, hv⟩ : ∃ v, v = entIn D (f + (k : Int)) known := ⟨_, rfl⟩
      rw [← hv] at HS ⊢
      clear hv
      rintro en w3 ⟨rfl, hs3⟩
      replace hown := OwnI.same hown hs3
      replace h1 := h1.same hs3
      have S3 := hs.trans hs3
      have n3 := S3.size
      clear hs3 hs
      go_wp2_with (at_builtin; refine appI _ rfl (.tmp 38) (.tmp 43) rfl (w.heap.size + 1) _ _ rfl (OwnI.alloc hown _) w3.heap.size 1 v rfl (by simp) hl (by simp; omega) ?_)
      intro v' w4 ho4 hup
      rw [← HS.out] at ho4
      have h4 := (h1.alloc (.cells #[.int .i64 v] 3)).upd hup (.inl (by omega))
      have S4 := (S3.alloc (.cells #[.int .i64 v] 3)).upds hup (by omega)
      clear hup hown h1 S3 HS
      go_wp2
      go_roundw
      case rel => exact ⟨k + 1, by omega, by go_num, ho4, h4, S4⟩
      case measure => simp [intOf]; omega
    · go_wp2
      go_ret
      rw [HV.out, show (t - f).toNat = k by omega]
      exact RetI.of (OwnI.base hown (by omega)) hs

set_option maxRecDepth 10000 in
set_option maxHeartbeats 4000000 in
theorem iEnts_any (D : TCase) (m : CMem) (f t known : Int) (w : World) (hD : D.Small 1048576) (hcap : D.R.length ≤ m.rc) (hA : CaseAt w D m) :
    Calls Tryz.prog 36 #[.agg #[.slice m.r D.R.length m.rc, .slice m.f D.F.length m.fc, .slice m.p D.P.length m.pc, .int .i64 D.birth, .int .i64 D.joined, .slice m.s D.S.length m.sc, .slice m.e D.E.length m.ec], .int .i64 f, .int .i64 t, .int .i64 known] w (RetI w (ents D f t known)) := by
  cases hok : D.ok
  · have HV := Lib.hid (ents_no (known := known) (show entsOk D f t = false by unfold entsOk; rw [hok]; rfl))
    have HOK := Lib.hid hok
    clear hok
    go_enter Tryz.func36, Tryz.ntmps36
    go_wp2_with fail
    have h1 : BoxAt (w.alloc (.cells #[.slice m.r D.R.length m.rc, .slice m.f D.F.length m.fc, .slice m.p D.P.length m.pc, .int .i64 D.birth, .int .i64 D.joined, .slice m.s D.S.length m.sc, .slice m.e D.E.length m.ec] 38)) (w.heap.size) 38 [.slice m.r D.R.length m.rc, .slice m.f D.F.length m.fc, .slice m.p D.P.length m.pc, .int .i64 D.birth, .int .i64 D.joined, .slice m.s D.S.length m.sc, .slice m.e D.E.length m.ec] := by simpa using (BoxAt.new w 38 [.slice m.r D.R.length m.rc, .slice m.f D.F.length m.fc, .slice m.p D.P.length m.pc, .int .i64 D.birth, .int .i64 D.joined, .slice m.s D.S.length m.sc, .slice m.e D.E.length m.ec])
    have S0 := (Same.alloc (Same.refl w) (.cells #[.slice m.r D.R.length m.rc, .slice m.f D.F.length m.fc, .slice m.p D.P.length m.pc, .int .i64 D.birth, .int .i64 D.joined, .slice m.s D.S.length m.sc, .slice m.e D.E.length m.ec] 38))
    generalize (w.alloc (.cells #[.slice m.r D.R.length m.rc, .slice m.f D.F.length m.fc, .slice m.p D.P.length m.pc, .int .i64 D.birth, .int .i64 D.joined, .slice m.s D.S.length m.sc, .slice m.e D.E.length m.ec] 38)) = w0 at *
    refine (iCaseOk_any D m _ hD hcap (hA.same S0)).mono ?_
    rw [HOK.out]
    rintro en w1 ⟨rfl, hs1⟩
    have S1 := S0.trans hs1
    replace h1 := h1.same hs1
    clear hs1 S0
    go_wp2
    go_ret
    rw [HV.out]
    exact ⟨none, 0, rfl, OwnI.nil _ _, S1⟩
  cases m1 : inB f 0 3600
  · have HV := Lib.hid (ents_no (known := known) (show entsOk D f t = false by unfold entsOk endOk; rw [hok, m1]; rfl))
    have HOK := Lib.hid hok
    clear hok
    go_enter Tryz.func36, Tryz.ntmps36
    go_wp2_with fail
    have h1 : BoxAt (w.alloc (.cells #[.slice m.r D.R.length m.rc, .slice m.f D.F.length m.fc, .slice m.p D.P.length m.pc, .int .i64 D.birth, .int .i64 D.joined, .slice m.s D.S.length m.sc, .slice m.e D.E.length m.ec] 38)) (w.heap.size) 38 [.slice m.r D.R.length m.rc, .slice m.f D.F.length m.fc, .slice m.p D.P.length m.pc, .int .i64 D.birth, .int .i64 D.joined, .slice m.s D.S.length m.sc, .slice m.e D.E.length m.ec] := by simpa using (BoxAt.new w 38 [.slice m.r D.R.length m.rc, .slice m.f D.F.length m.fc, .slice m.p D.P.length m.pc, .int .i64 D.birth, .int .i64 D.joined, .slice m.s D.S.length m.sc, .slice m.e D.E.length m.ec])
    have S0 := (Same.alloc (Same.refl w) (.cells #[.slice m.r D.R.length m.rc, .slice m.f D.F.length m.fc, .slice m.p D.P.length m.pc, .int .i64 D.birth, .int .i64 D.joined, .slice m.s D.S.length m.sc, .slice m.e D.E.length m.ec] 38))
    generalize (w.alloc (.cells #[.slice m.r D.R.length m.rc, .slice m.f D.F.length m.fc, .slice m.p D.P.length m.pc, .int .i64 D.birth, .int .i64 D.joined, .slice m.s D.S.length m.sc, .slice m.e D.E.length m.ec] 38)) = w0 at *
    refine (iCaseOk_any D m _ hD hcap (hA.same S0)).mono ?_
    rw [HOK.out]
    rintro en w1 ⟨rfl, hs1⟩
    have S1 := S0.trans hs1
    replace h1 := h1.same hs1
    clear hs1 S0
    go_wp2_with fail
    refine (iEnd_any f _).mono ?_
    rw [m1]
    rintro en w2 ⟨rfl, rfl⟩
    go_wp2
    go_ret
    rw [HV.out]
    exact ⟨none, 0, rfl, OwnI.nil _ _, S1⟩
  cases m2 : inB t 0 3600
  · have HV := Lib.hid (ents_no (known := known) (show entsOk D f t = false by unfold entsOk endOk; rw [hok, m1, m2]; rfl))
    have HOK := Lib.hid hok
    clear hok
    go_enter Tryz.func36, Tryz.ntmps36
    go_wp2_with fail
    have h1 : BoxAt (w.alloc (.cells #[.slice m.r D.R.length m.rc, .slice m.f D.F.length m.fc, .slice m.p D.P.length m.pc, .int .i64 D.birth, .int .i64 D.joined, .slice m.s D.S.length m.sc, .slice m.e D.E.length m.ec] 38)) (w.heap.size) 38 [.slice m.r D.R.length m.rc, .slice m.f D.F.length m.fc, .slice m.p D.P.length m.pc, .int .i64 D.birth, .int .i64 D.joined, .slice m.s D.S.length m.sc, .slice m.e D.E.length m.ec] := by simpa using (BoxAt.new w 38 [.slice m.r D.R.length m.rc, .slice m.f D.F.length m.fc, .slice m.p D.P.length m.pc, .int .i64 D.birth, .int .i64 D.joined, .slice m.s D.S.length m.sc, .slice m.e D.E.length m.ec])
    have S0 := (Same.alloc (Same.refl w) (.cells #[.slice m.r D.R.length m.rc, .slice m.f D.F.length m.fc, .slice m.p D.P.length m.pc, .int .i64 D.birth, .int .i64 D.joined, .slice m.s D.S.length m.sc, .slice m.e D.E.length m.ec] 38))
    generalize (w.alloc (.cells #[.slice m.r D.R.length m.rc, .slice m.f D.F.length m.fc, .slice m.p D.P.length m.pc, .int .i64 D.birth, .int .i64 D.joined, .slice m.s D.S.length m.sc, .slice m.e D.E.length m.ec] 38)) = w0 at *
    refine (iCaseOk_any D m _ hD hcap (hA.same S0)).mono ?_
    rw [HOK.out]
    rintro en w1 ⟨rfl, hs1⟩
    have S1 := S0.trans hs1
    replace h1 := h1.same hs1
    clear hs1 S0
    go_wp2_with fail
    refine (iEnd_any f _).mono ?_
    rw [m1]
    rintro en w2 ⟨rfl, rfl⟩
    go_wp2_with fail
    refine (iEnd_any t _).mono ?_
    rw [m2]
    rintro en w2 ⟨rfl, rfl⟩
    go_wp2
    go_ret
    rw [HV.out]
    exact ⟨none, 0, rfl, OwnI.nil _ _, S1⟩
  have hf := inB_iff.1 m1
  have ht := inB_iff.1 m2
  have M1 := Lib.hid m1
  have M2 := Lib.hid m2
  have HOK := Lib.hid hok
  by_cases m3 : t ≤ f + 240
  case neg =>
    have HV := Lib.hid (ents_no (known := known) (show entsOk D f t = false by unfold entsOk endOk; rw [hok, m1, m2]; simp [m3]))
    clear hok m1 m2
    go_enter Tryz.func36, Tryz.ntmps36
    go_wp2_with fail
    have h1 : BoxAt (w.alloc (.cells #[.slice m.r D.R.length m.rc, .slice m.f D.F.length m.fc, .slice m.p D.P.length m.pc, .int .i64 D.birth, .int .i64 D.joined, .slice m.s D.S.length m.sc, .slice m.e D.E.length m.ec] 38)) (w.heap.size) 38 [.slice m.r D.R.length m.rc, .slice m.f D.F.length m.fc, .slice m.p D.P.length m.pc, .int .i64 D.birth, .int .i64 D.joined, .slice m.s D.S.length m.sc, .slice m.e D.E.length m.ec] := by simpa using (BoxAt.new w 38 [.slice m.r D.R.length m.rc, .slice m.f D.F.length m.fc, .slice m.p D.P.length m.pc, .int .i64 D.birth, .int .i64 D.joined, .slice m.s D.S.length m.sc, .slice m.e D.E.length m.ec])
    have S0 := (Same.alloc (Same.refl w) (.cells #[.slice m.r D.R.length m.rc, .slice m.f D.F.length m.fc, .slice m.p D.P.length m.pc, .int .i64 D.birth, .int .i64 D.joined, .slice m.s D.S.length m.sc, .slice m.e D.E.length m.ec] 38))
    generalize (w.alloc (.cells #[.slice m.r D.R.length m.rc, .slice m.f D.F.length m.fc, .slice m.p D.P.length m.pc, .int .i64 D.birth, .int .i64 D.joined, .slice m.s D.S.length m.sc, .slice m.e D.E.length m.ec] 38)) = w0 at *
    refine (iCaseOk_any D m _ hD hcap (hA.same S0)).mono ?_
    rw [HOK.out]
    rintro en w1 ⟨rfl, hs1⟩
    have S1 := S0.trans hs1
    replace h1 := h1.same hs1
    clear hs1 S0
    go_wp2_with fail
    refine (iEnd_any f _).mono ?_
    rw [M1.out]
    rintro en w2 ⟨rfl, rfl⟩
    go_wp2_with fail
    refine (iEnd_any t _).mono ?_
    rw [M2.out]
    rintro en w2 ⟨rfl, rfl⟩
    go_wp2
    go_ret
    rw [HV.out]
    exact ⟨none, 0, rfl, OwnI.nil _ _, S1⟩
  have HV := Lib.hid (ents_yes (known := known) (show entsOk D f t = true by unfold entsOk endOk; rw [hok, m1, m2]; simp [m3]))
  have HEI := Lib.hid (fun y : Int => entAt_in (m := y) (known := known) hok)
  clear hok m1 m2
  go_enter Tryz.func36, Tryz.ntmps36
  go_wp2_with fail
  have h1 : BoxAt (w.alloc (.cells #[.slice m.r D.R.length m.rc, .slice m.f D.F.length m.fc, .slice m.p D.P.length m.pc, .int .i64 D.birth, .int .i64 D.joined, .slice m.s D.S.length m.sc, .slice m.e D.E.length m.ec] 38)) (w.heap.size) 38 [.slice m.r D.R.length m.rc, .slice m.f D.F.length m.fc, .slice m.p D.P.length m.pc, .int .i64 D.birth, .int .i64 D.joined, .slice m.s D.S.length m.sc, .slice m.e D.E.length m.ec] := by simpa using (BoxAt.new w 38 [.slice m.r D.R.length m.rc, .slice m.f D.F.length m.fc, .slice m.p D.P.length m.pc, .int .i64 D.birth, .int .i64 D.joined, .slice m.s D.S.length m.sc, .slice m.e D.E.length m.ec])
  have S0 := (Same.alloc (Same.refl w) (.cells #[.slice m.r D.R.length m.rc, .slice m.f D.F.length m.fc, .slice m.p D.P.length m.pc, .int .i64 D.birth, .int .i64 D.joined, .slice m.s D.S.length m.sc, .slice m.e D.E.length m.ec] 38))
  generalize (w.alloc (.cells #[.slice m.r D.R.length m.rc, .slice m.f D.F.length m.fc, .slice m.p D.P.length m.pc, .int .i64 D.birth, .int .i64 D.joined, .slice m.s D.S.length m.sc, .slice m.e D.E.length m.ec] 38)) = w0 at *
  refine (iCaseOk_any D m _ hD hcap (hA.same S0)).mono ?_
  rw [HOK.out]
  rintro en w1 ⟨rfl, hs1⟩
  have S1 := S0.trans hs1
  replace h1 := h1.same hs1
  clear hs1 S0
  go_wp2_with fail
  refine (iEnd_any f _).mono ?_
  rw [M1.out]
  rintro en w2 ⟨rfl, rfl⟩
  go_wp2_with fail
  refine (iEnd_any t _).mono ?_
  rw [M2.out]
  rintro en w2 ⟨rfl, rfl⟩
  go_wp2
  have hem := OwnI.base (OwnI.empty w1 (Nat.le_refl _)) (show w.heap.size + 1 ≤ w1.heap.size from h1.lt)
  replace h1 := h1.alloc (.cells #[] 3)
  replace S1 := S1.alloc (.cells #[] 3)
  go_loopw [9, 10] (fun o i wr => ∃ k : Nat, k ≤ (t - f).toNat ∧ i = .int .i64 (f + (k : Int)) ∧ OwnI wr (w.heap.size + 1) o (entTo D f known k) ∧ BoxAt wr w.heap.size 38 [.slice m.r D.R.length m.rc, .slice m.f D.F.length m.fc, .slice m.p D.P.length m.pc, .int .i64 D.birth, .int .i64 D.joined, .slice m.s D.S.length m.sc, .slice m.e D.E.length m.ec] ∧ Same w wr) (fun _ i _ => (t - intOf i).toNat)
  case atStart => exact ⟨0, Nat.zero_le _, by simp, hem, h1, S1⟩
  case round =>
    clear hem h1 S1
    obtain ⟨k, hk, rfl, hown, h1, hs⟩ := hrel
    by_cases hlt : f + (k : Int) < t
    · have a0 := h1.cell 0 rfl
      have a1 := h1.cell 1 rfl
      have a2 := h1.cell 2 rfl
      have a3 := h1.cell 3 rfl
      have a4 := h1.cell 4 rfl
      have a5 := h1.cell 5 rfl
      have a6 := h1.cell 6 rfl
      have aL := h1.lt
      go_wp2_with fail
      clear a0 a1 a2 a3 a4 a5 a6 aL
      refine (iEntAt_any D m (f + (k : Int)) known _ hD hcap (hA.same hs)).mono ?_
      rw [HEI.out]
      have HS := Lib.hid (entTo_succ D f known k)
      have hl : (entTo D f known k).length ≤ 1000000000 := by rw [entTo_length]; omega
      obtain ⟨v, hv⟩ : ∃ v, v = entIn D (f + (k : Int)) known := ⟨_, rfl⟩
      rw [← hv] at HS ⊢
      clear hv
      rintro en w3 ⟨rfl, hs3⟩
      replace hown := OwnI.same hown hs3
      replace h1 := h1.same hs3
      have S3 := hs.trans hs3
      have n3 := S3.size
      clear hs3 hs
      go_wp2_with (at_builtin; refine appI _ rfl (.tmp 37) (.tmp 42) rfl (w.heap.size + 1) _ _ rfl (OwnI.alloc hown _) w3.heap.size 1 v rfl (by simp) hl (by simp; omega) ?_)
      intro v' w4 ho4 hup
      rw [← HS.out] at ho4
      have h4 := (h1.alloc (.cells #[.int .i64 v] 3)).upd hup (.inl (by omega))
      have S4 := (S3.alloc (.cells #[.int .i64 v] 3)).upds hup (by omega)
      clear hup hown h1 S3 HS
      go_wp2
      go_roundw
      case rel => exact ⟨k + 1, by omega, by go_num, ho4, h4, S4⟩
      case measure => simp [intOf]; omega
    · go_wp2
      go_ret
      rw [HV.out, show (t - f).toNat = k by omega]
      exact RetI.of (OwnI.base hown (by omega)) hs
end Go.Proofs.YtjfmknhnplefnaaGreat
