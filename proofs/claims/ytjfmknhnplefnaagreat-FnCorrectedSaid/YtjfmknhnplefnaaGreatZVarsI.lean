/-
  The variables of a case (the program's side).
-/
import Derived.Test.YtjfmknhnplefnaaGreatZVars
import Derived.Test.YtjfmknhnplefnaaGreatZRatio
import Derived.Test.YtjfmknhnplefnaaGreatZKindI
import Derived.Test.YtjfmknhnplefnaaGreatZPayI
import Derived.Test.YtjfmknhnplefnaaGreatZMonthsI
import Derived.Test.YtjfmknhnplefnaaGreatZEval
import Derived.Deep.CutRange
namespace Go.Proofs.YtjfmknhnplefnaaGreat
open Go.RowKit
set_option linter.unusedVariables false
set_option linter.unusedSimpArgs false

theorem whole_any (n : Int) (w : World) : Calls Tryz.prog 64 #[.int .i64 n] w fun e w' => e = .returned (.agg #[.int .i64 n, .int .i64 1]) ∧ Same w w' := by
  go_enter Tryz.func64, Tryz.ntmps64
  go_wp2
  exact bodyPost_ret (v := .agg #[.int .i64 n, .int .i64 1]) (by simp [results, Tryz.results64, go_sem]) rfl ⟨rfl, (Same.refl w).alloc _⟩

/-- Variables handed back, their row new, and whether they are valid. -/
def RetV (w : World) (R : List TFrac × Bool) (en : Ending) (w' : World) : Prop :=
  ∃ C d, en = .returned (.tuple #[.slice C R.1.length d, .bool R.2]) ∧ OwnFrac w' w.heap.size (.slice C R.1.length d) R.1 ∧ Same w w'
theorem RetV.nil {w w' : World} {R : List TFrac × Bool} (h : R = ([], false)) (hs : Same w w') : RetV w R (.returned (.tuple #[.slice none 0 0, .bool false])) w' := by
  subst h
  exact ⟨none, 0, rfl, OwnR.nil _ _ _ _ _, hs⟩

theorem varsFor_bad {D : TCase} {m known : Int} (h : D.ok = false) : varsFor D m known = ([], false) := by unfold varsFor; rw [h]; rfl
theorem varsIn_far {D : TCase} {m known : Int} (h : varsRange D m known = false) : varsIn D m known = ([], false) := by unfold varsIn; rw [h]; rfl
theorem varsIn_un {D : TCase} {m known : Int} (h : fracsOk (varsOf D m known) = false) : varsIn D m known = ([], false) := by unfold varsIn; rw [h, Bool.and_false]; rfl
theorem varsIn_yes {D : TCase} {m known : Int} (h : varsRange D m known = true) (h2 : fracsOk (varsOf D m known) = true) : varsIn D m known = (varsOf D m known, true) := by unfold varsIn; rw [h, h2]; rfl
theorem varsFor_in {D : TCase} {m known : Int} (h : D.ok = true) : varsFor D m known = varsIn D m known := by unfold varsFor; rw [h]; rfl
theorem TCase.ok_spells {D : TCase} (h : D.ok = true) : spellsOk D.S = true ∧ D.S.length ≤ 30 := by
  rw [D.ok_eq] at h
  simp only [Bool.and_eq_true, memberOk] at h
  have h1 := h.2.1.2
  refine ⟨h1, ?_⟩
  simp only [spellsOk, Bool.and_eq_true, decide_eq_true_eq] at h1
  exact h1.2
theorem service_range {S : List TSpell} (a b : Int) (h : spellsOk S = true) (hl : S.length ≤ 30) : 0 ≤ serviceIn S a b ∧ serviceIn S a b ≤ 10800000 := by
  unfold serviceIn
  rw [if_pos h]
  have := svTo_range a b h S.length (Nat.le_refl _)
  omega

set_option maxRecDepth 100000 in
set_option maxHeartbeats 8000000 in
theorem iVarsFor_any (D : TCase) (m : CMem) (x known : Int) (w : World) (hD : D.Small 1048576) (hcap : D.R.length ≤ m.rc) (hA : CaseAt w D m) :
    Calls Tryz.prog 17 #[.agg #[.slice m.r D.R.length m.rc, .slice m.f D.F.length m.fc, .slice m.p D.P.length m.pc, .int .i64 D.birth, .int .i64 D.joined, .slice m.s D.S.length m.sc, .slice m.e D.E.length m.ec], .int .i64 x, .int .i64 known] w (RetV w (varsFor D x known)) := by
  cases hok : D.ok
  · have HOK := Lib.hid hok
    have HV := Lib.hid (varsFor_bad (m := x) (known := known) hok)
    clear hok
    go_enter Tryz.func17, Tryz.ntmps17
    go_wp2_with fail
    have h1 : BoxAt ((w.alloc (.cells #[.slice m.r D.R.length m.rc, .slice m.f D.F.length m.fc, .slice m.p D.P.length m.pc, .int .i64 D.birth, .int .i64 D.joined, .slice m.s D.S.length m.sc, .slice m.e D.E.length m.ec] 38)).alloc (.cells #[.int .i64 D.birth, .int .i64 D.joined, .slice m.s D.S.length m.sc, .slice m.e D.E.length m.ec] 36)) (w.heap.size) 38 [.slice m.r D.R.length m.rc, .slice m.f D.F.length m.fc, .slice m.p D.P.length m.pc, .int .i64 D.birth, .int .i64 D.joined, .slice m.s D.S.length m.sc, .slice m.e D.E.length m.ec] := by simpa using (BoxAt.alloc (BoxAt.new w 38 [.slice m.r D.R.length m.rc, .slice m.f D.F.length m.fc, .slice m.p D.P.length m.pc, .int .i64 D.birth, .int .i64 D.joined, .slice m.s D.S.length m.sc, .slice m.e D.E.length m.ec]) (.cells #[.int .i64 D.birth, .int .i64 D.joined, .slice m.s D.S.length m.sc, .slice m.e D.E.length m.ec] 36))
    have h2 : BoxAt ((w.alloc (.cells #[.slice m.r D.R.length m.rc, .slice m.f D.F.length m.fc, .slice m.p D.P.length m.pc, .int .i64 D.birth, .int .i64 D.joined, .slice m.s D.S.length m.sc, .slice m.e D.E.length m.ec] 38)).alloc (.cells #[.int .i64 D.birth, .int .i64 D.joined, .slice m.s D.S.length m.sc, .slice m.e D.E.length m.ec] 36)) (w.heap.size + 1) 36 [.int .i64 D.birth, .int .i64 D.joined, .slice m.s D.S.length m.sc, .slice m.e D.E.length m.ec] := by simpa using (BoxAt.new (w.alloc (.cells #[.slice m.r D.R.length m.rc, .slice m.f D.F.length m.fc, .slice m.p D.P.length m.pc, .int .i64 D.birth, .int .i64 D.joined, .slice m.s D.S.length m.sc, .slice m.e D.E.length m.ec] 38)) 36 [.int .i64 D.birth, .int .i64 D.joined, .slice m.s D.S.length m.sc, .slice m.e D.E.length m.ec])
    have hs0 := (Same.alloc (Same.alloc (Same.refl w) (.cells #[.slice m.r D.R.length m.rc, .slice m.f D.F.length m.fc, .slice m.p D.P.length m.pc, .int .i64 D.birth, .int .i64 D.joined, .slice m.s D.S.length m.sc, .slice m.e D.E.length m.ec] 38)) (.cells #[.int .i64 D.birth, .int .i64 D.joined, .slice m.s D.S.length m.sc, .slice m.e D.E.length m.ec] 36))
    generalize ((w.alloc (.cells #[.slice m.r D.R.length m.rc, .slice m.f D.F.length m.fc, .slice m.p D.P.length m.pc, .int .i64 D.birth, .int .i64 D.joined, .slice m.s D.S.length m.sc, .slice m.e D.E.length m.ec] 38)).alloc (.cells #[.int .i64 D.birth, .int .i64 D.joined, .slice m.s D.S.length m.sc, .slice m.e D.E.length m.ec] 36)) = w0 at *
    refine (iCaseOk_any D m _ hD hcap (hA.same hs0)).mono ?_
    rw [HOK.out]
    rintro en w1 ⟨rfl, hs1⟩
    have S1 := hs0.trans hs1
    replace h1 := h1.same hs1
    replace h2 := h2.same hs1
    clear hs0 hs1
    go_wp2
    go_ret2
    exact RetV.nil HV.out S1
  have HIN := Lib.hid (varsFor_in (m := x) (known := known) hok)
  have HSP := Lib.hid (TCase.ok_spells hok)
  have HOK := Lib.hid hok
  clear hok
  cases m1 : inB x 0 3599
  · have HV := Lib.hid (show varsFor D x known = ([], false) by rw [HIN.out]; exact varsIn_far (by simp [varsRange, m1]))
    go_enter Tryz.func17, Tryz.ntmps17
    go_wp2_with fail
    have h1 : BoxAt ((w.alloc (.cells #[.slice m.r D.R.length m.rc, .slice m.f D.F.length m.fc, .slice m.p D.P.length m.pc, .int .i64 D.birth, .int .i64 D.joined, .slice m.s D.S.length m.sc, .slice m.e D.E.length m.ec] 38)).alloc (.cells #[.int .i64 D.birth, .int .i64 D.joined, .slice m.s D.S.length m.sc, .slice m.e D.E.length m.ec] 36)) (w.heap.size) 38 [.slice m.r D.R.length m.rc, .slice m.f D.F.length m.fc, .slice m.p D.P.length m.pc, .int .i64 D.birth, .int .i64 D.joined, .slice m.s D.S.length m.sc, .slice m.e D.E.length m.ec] := by simpa using (BoxAt.alloc (BoxAt.new w 38 [.slice m.r D.R.length m.rc, .slice m.f D.F.length m.fc, .slice m.p D.P.length m.pc, .int .i64 D.birth, .int .i64 D.joined, .slice m.s D.S.length m.sc, .slice m.e D.E.length m.ec]) (.cells #[.int .i64 D.birth, .int .i64 D.joined, .slice m.s D.S.length m.sc, .slice m.e D.E.length m.ec] 36))
    have h2 : BoxAt ((w.alloc (.cells #[.slice m.r D.R.length m.rc, .slice m.f D.F.length m.fc, .slice m.p D.P.length m.pc, .int .i64 D.birth, .int .i64 D.joined, .slice m.s D.S.length m.sc, .slice m.e D.E.length m.ec] 38)).alloc (.cells #[.int .i64 D.birth, .int .i64 D.joined, .slice m.s D.S.length m.sc, .slice m.e D.E.length m.ec] 36)) (w.heap.size + 1) 36 [.int .i64 D.birth, .int .i64 D.joined, .slice m.s D.S.length m.sc, .slice m.e D.E.length m.ec] := by simpa using (BoxAt.new (w.alloc (.cells #[.slice m.r D.R.length m.rc, .slice m.f D.F.length m.fc, .slice m.p D.P.length m.pc, .int .i64 D.birth, .int .i64 D.joined, .slice m.s D.S.length m.sc, .slice m.e D.E.length m.ec] 38)) 36 [.int .i64 D.birth, .int .i64 D.joined, .slice m.s D.S.length m.sc, .slice m.e D.E.length m.ec])
    have hs0 := (Same.alloc (Same.alloc (Same.refl w) (.cells #[.slice m.r D.R.length m.rc, .slice m.f D.F.length m.fc, .slice m.p D.P.length m.pc, .int .i64 D.birth, .int .i64 D.joined, .slice m.s D.S.length m.sc, .slice m.e D.E.length m.ec] 38)) (.cells #[.int .i64 D.birth, .int .i64 D.joined, .slice m.s D.S.length m.sc, .slice m.e D.E.length m.ec] 36))
    generalize ((w.alloc (.cells #[.slice m.r D.R.length m.rc, .slice m.f D.F.length m.fc, .slice m.p D.P.length m.pc, .int .i64 D.birth, .int .i64 D.joined, .slice m.s D.S.length m.sc, .slice m.e D.E.length m.ec] 38)).alloc (.cells #[.int .i64 D.birth, .int .i64 D.joined, .slice m.s D.S.length m.sc, .slice m.e D.E.length m.ec] 36)) = w0 at *
    refine (iCaseOk_any D m _ hD hcap (hA.same hs0)).mono ?_
    rw [HOK.out]
    rintro en w1 ⟨rfl, hs1⟩
    have S1 := hs0.trans hs1
    replace h1 := h1.same hs1
    replace h2 := h2.same hs1
    clear hs0 hs1
    go_wp2_with fail
    refine (iMonthOk_any x _).mono ?_
    rw [m1]
    rintro en w2 ⟨rfl, rfl⟩
    go_wp2
    go_ret2
    exact RetV.nil HV.out S1
  cases m2 : inB known 0 3599
  · have HV := Lib.hid (show varsFor D x known = ([], false) by rw [HIN.out]; exact varsIn_far (by simp [varsRange, m2]))
    go_enter Tryz.func17, Tryz.ntmps17
    go_wp2_with fail
    have h1 : BoxAt ((w.alloc (.cells #[.slice m.r D.R.length m.rc, .slice m.f D.F.length m.fc, .slice m.p D.P.length m.pc, .int .i64 D.birth, .int .i64 D.joined, .slice m.s D.S.length m.sc, .slice m.e D.E.length m.ec] 38)).alloc (.cells #[.int .i64 D.birth, .int .i64 D.joined, .slice m.s D.S.length m.sc, .slice m.e D.E.length m.ec] 36)) (w.heap.size) 38 [.slice m.r D.R.length m.rc, .slice m.f D.F.length m.fc, .slice m.p D.P.length m.pc, .int .i64 D.birth, .int .i64 D.joined, .slice m.s D.S.length m.sc, .slice m.e D.E.length m.ec] := by simpa using (BoxAt.alloc (BoxAt.new w 38 [.slice m.r D.R.length m.rc, .slice m.f D.F.length m.fc, .slice m.p D.P.length m.pc, .int .i64 D.birth, .int .i64 D.joined, .slice m.s D.S.length m.sc, .slice m.e D.E.length m.ec]) (.cells #[.int .i64 D.birth, .int .i64 D.joined, .slice m.s D.S.length m.sc, .slice m.e D.E.length m.ec] 36))
    have h2 : BoxAt ((w.alloc (.cells #[.slice m.r D.R.length m.rc, .slice m.f D.F.length m.fc, .slice m.p D.P.length m.pc, .int .i64 D.birth, .int .i64 D.joined, .slice m.s D.S.length m.sc, .slice m.e D.E.length m.ec] 38)).alloc (.cells #[.int .i64 D.birth, .int .i64 D.joined, .slice m.s D.S.length m.sc, .slice m.e D.E.length m.ec] 36)) (w.heap.size + 1) 36 [.int .i64 D.birth, .int .i64 D.joined, .slice m.s D.S.length m.sc, .slice m.e D.E.length m.ec] := by simpa using (BoxAt.new (w.alloc (.cells #[.slice m.r D.R.length m.rc, .slice m.f D.F.length m.fc, .slice m.p D.P.length m.pc, .int .i64 D.birth, .int .i64 D.joined, .slice m.s D.S.length m.sc, .slice m.e D.E.length m.ec] 38)) 36 [.int .i64 D.birth, .int .i64 D.joined, .slice m.s D.S.length m.sc, .slice m.e D.E.length m.ec])
    have hs0 := (Same.alloc (Same.alloc (Same.refl w) (.cells #[.slice m.r D.R.length m.rc, .slice m.f D.F.length m.fc, .slice m.p D.P.length m.pc, .int .i64 D.birth, .int .i64 D.joined, .slice m.s D.S.length m.sc, .slice m.e D.E.length m.ec] 38)) (.cells #[.int .i64 D.birth, .int .i64 D.joined, .slice m.s D.S.length m.sc, .slice m.e D.E.length m.ec] 36))
    generalize ((w.alloc (.cells #[.slice m.r D.R.length m.rc, .slice m.f D.F.length m.fc, .slice m.p D.P.length m.pc, .int .i64 D.birth, .int .i64 D.joined, .slice m.s D.S.length m.sc, .slice m.e D.E.length m.ec] 38)).alloc (.cells #[.int .i64 D.birth, .int .i64 D.joined, .slice m.s D.S.length m.sc, .slice m.e D.E.length m.ec] 36)) = w0 at *
    refine (iCaseOk_any D m _ hD hcap (hA.same hs0)).mono ?_
    rw [HOK.out]
    rintro en w1 ⟨rfl, hs1⟩
    have S1 := hs0.trans hs1
    replace h1 := h1.same hs1
    replace h2 := h2.same hs1
    clear hs0 hs1
    go_wp2_with fail
    refine (iMonthOk_any x _).mono ?_
    rw [m1]
    rintro en w2 ⟨rfl, rfl⟩
    go_wp2_with fail
    refine (iMonthOk_any known _).mono ?_
    rw [m2]
    rintro en w2 ⟨rfl, rfl⟩
    go_wp2
    go_ret2
    exact RetV.nil HV.out S1
  have hx := inB_iff.1 m1
  have hkn := inB_iff.1 m2
  have M1 := Lib.hid m1
  have M2 := Lib.hid m2
  have hxe : inB x 0 3600 = true := inB_iff.2 (by omega)
  have HXE := Lib.hid hxe
  clear hxe
  by_cases m3 : D.joined ≤ x
  case neg =>
    have HV := Lib.hid (show varsFor D x known = ([], false) by rw [HIN.out]; exact varsIn_far (by simp [varsRange, m3]))
    clear m1 m2
    go_enter Tryz.func17, Tryz.ntmps17
    go_wp2_with fail
    have h1 : BoxAt ((w.alloc (.cells #[.slice m.r D.R.length m.rc, .slice m.f D.F.length m.fc, .slice m.p D.P.length m.pc, .int .i64 D.birth, .int .i64 D.joined, .slice m.s D.S.length m.sc, .slice m.e D.E.length m.ec] 38)).alloc (.cells #[.int .i64 D.birth, .int .i64 D.joined, .slice m.s D.S.length m.sc, .slice m.e D.E.length m.ec] 36)) (w.heap.size) 38 [.slice m.r D.R.length m.rc, .slice m.f D.F.length m.fc, .slice m.p D.P.length m.pc, .int .i64 D.birth, .int .i64 D.joined, .slice m.s D.S.length m.sc, .slice m.e D.E.length m.ec] := by simpa using (BoxAt.alloc (BoxAt.new w 38 [.slice m.r D.R.length m.rc, .slice m.f D.F.length m.fc, .slice m.p D.P.length m.pc, .int .i64 D.birth, .int .i64 D.joined, .slice m.s D.S.length m.sc, .slice m.e D.E.length m.ec]) (.cells #[.int .i64 D.birth, .int .i64 D.joined, .slice m.s D.S.length m.sc, .slice m.e D.E.length m.ec] 36))
    have h2 : BoxAt ((w.alloc (.cells #[.slice m.r D.R.length m.rc, .slice m.f D.F.length m.fc, .slice m.p D.P.length m.pc, .int .i64 D.birth, .int .i64 D.joined, .slice m.s D.S.length m.sc, .slice m.e D.E.length m.ec] 38)).alloc (.cells #[.int .i64 D.birth, .int .i64 D.joined, .slice m.s D.S.length m.sc, .slice m.e D.E.length m.ec] 36)) (w.heap.size + 1) 36 [.int .i64 D.birth, .int .i64 D.joined, .slice m.s D.S.length m.sc, .slice m.e D.E.length m.ec] := by simpa using (BoxAt.new (w.alloc (.cells #[.slice m.r D.R.length m.rc, .slice m.f D.F.length m.fc, .slice m.p D.P.length m.pc, .int .i64 D.birth, .int .i64 D.joined, .slice m.s D.S.length m.sc, .slice m.e D.E.length m.ec] 38)) 36 [.int .i64 D.birth, .int .i64 D.joined, .slice m.s D.S.length m.sc, .slice m.e D.E.length m.ec])
    have hs0 := (Same.alloc (Same.alloc (Same.refl w) (.cells #[.slice m.r D.R.length m.rc, .slice m.f D.F.length m.fc, .slice m.p D.P.length m.pc, .int .i64 D.birth, .int .i64 D.joined, .slice m.s D.S.length m.sc, .slice m.e D.E.length m.ec] 38)) (.cells #[.int .i64 D.birth, .int .i64 D.joined, .slice m.s D.S.length m.sc, .slice m.e D.E.length m.ec] 36))
    generalize ((w.alloc (.cells #[.slice m.r D.R.length m.rc, .slice m.f D.F.length m.fc, .slice m.p D.P.length m.pc, .int .i64 D.birth, .int .i64 D.joined, .slice m.s D.S.length m.sc, .slice m.e D.E.length m.ec] 38)).alloc (.cells #[.int .i64 D.birth, .int .i64 D.joined, .slice m.s D.S.length m.sc, .slice m.e D.E.length m.ec] 36)) = w0 at *
    refine (iCaseOk_any D m _ hD hcap (hA.same hs0)).mono ?_
    rw [HOK.out]
    rintro en w1 ⟨rfl, hs1⟩
    have S1 := hs0.trans hs1
    replace h1 := h1.same hs1
    replace h2 := h2.same hs1
    clear hs0 hs1
    go_wp2_with fail
    refine (iMonthOk_any x _).mono ?_
    rw [M1.out]
    rintro en w2 ⟨rfl, rfl⟩
    go_wp2_with fail
    refine (iMonthOk_any known _).mono ?_
    rw [M2.out]
    rintro en w2 ⟨rfl, rfl⟩
    have b1 := h2.cell 1 rfl
    have bL := h2.lt
    go_wp2
    go_ret2
    exact RetV.nil HV.out S1
  have HRG := Lib.hid (show varsRange D x known = true by simp [varsRange, m1, m2, m3])
  clear m1 m2
  go_enter Tryz.func17, Tryz.ntmps17
  go_wp2_with fail
  have h1 : BoxAt ((w.alloc (.cells #[.slice m.r D.R.length m.rc, .slice m.f D.F.length m.fc, .slice m.p D.P.length m.pc, .int .i64 D.birth, .int .i64 D.joined, .slice m.s D.S.length m.sc, .slice m.e D.E.length m.ec] 38)).alloc (.cells #[.int .i64 D.birth, .int .i64 D.joined, .slice m.s D.S.length m.sc, .slice m.e D.E.length m.ec] 36)) (w.heap.size) 38 [.slice m.r D.R.length m.rc, .slice m.f D.F.length m.fc, .slice m.p D.P.length m.pc, .int .i64 D.birth, .int .i64 D.joined, .slice m.s D.S.length m.sc, .slice m.e D.E.length m.ec] := by simpa using (BoxAt.alloc (BoxAt.new w 38 [.slice m.r D.R.length m.rc, .slice m.f D.F.length m.fc, .slice m.p D.P.length m.pc, .int .i64 D.birth, .int .i64 D.joined, .slice m.s D.S.length m.sc, .slice m.e D.E.length m.ec]) (.cells #[.int .i64 D.birth, .int .i64 D.joined, .slice m.s D.S.length m.sc, .slice m.e D.E.length m.ec] 36))
  have h2 : BoxAt ((w.alloc (.cells #[.slice m.r D.R.length m.rc, .slice m.f D.F.length m.fc, .slice m.p D.P.length m.pc, .int .i64 D.birth, .int .i64 D.joined, .slice m.s D.S.length m.sc, .slice m.e D.E.length m.ec] 38)).alloc (.cells #[.int .i64 D.birth, .int .i64 D.joined, .slice m.s D.S.length m.sc, .slice m.e D.E.length m.ec] 36)) (w.heap.size + 1) 36 [.int .i64 D.birth, .int .i64 D.joined, .slice m.s D.S.length m.sc, .slice m.e D.E.length m.ec] := by simpa using (BoxAt.new (w.alloc (.cells #[.slice m.r D.R.length m.rc, .slice m.f D.F.length m.fc, .slice m.p D.P.length m.pc, .int .i64 D.birth, .int .i64 D.joined, .slice m.s D.S.length m.sc, .slice m.e D.E.length m.ec] 38)) 36 [.int .i64 D.birth, .int .i64 D.joined, .slice m.s D.S.length m.sc, .slice m.e D.E.length m.ec])
  have hs0 := (Same.alloc (Same.alloc (Same.refl w) (.cells #[.slice m.r D.R.length m.rc, .slice m.f D.F.length m.fc, .slice m.p D.P.length m.pc, .int .i64 D.birth, .int .i64 D.joined, .slice m.s D.S.length m.sc, .slice m.e D.E.length m.ec] 38)) (.cells #[.int .i64 D.birth, .int .i64 D.joined, .slice m.s D.S.length m.sc, .slice m.e D.E.length m.ec] 36))
  generalize ((w.alloc (.cells #[.slice m.r D.R.length m.rc, .slice m.f D.F.length m.fc, .slice m.p D.P.length m.pc, .int .i64 D.birth, .int .i64 D.joined, .slice m.s D.S.length m.sc, .slice m.e D.E.length m.ec] 38)).alloc (.cells #[.int .i64 D.birth, .int .i64 D.joined, .slice m.s D.S.length m.sc, .slice m.e D.E.length m.ec] 36)) = w0 at *
  refine (iCaseOk_any D m _ hD hcap (hA.same hs0)).mono ?_
  rw [HOK.out]
  rintro en w1 ⟨rfl, hs1⟩
  have S1 := hs0.trans hs1
  replace h1 := h1.same hs1
  replace h2 := h2.same hs1
  clear hs0 hs1
  go_wp2_with fail
  refine (iMonthOk_any x _).mono ?_
  rw [M1.out]
  rintro en w2 ⟨rfl, rfl⟩
  go_wp2_with fail
  refine (iMonthOk_any known _).mono ?_
  rw [M2.out]
  rintro en w2 ⟨rfl, rfl⟩
  have b1 := h2.cell 1 rfl
  have bL := h2.lt
  have a1 := h1.cell 1 rfl
  have aL := h1.lt
  go_wp2_with fail
  clear b1 bL a1 aL
  refine (iFinalPay_any m.f m.fc D.F x known _ hD.F (hA.same S1).facts).mono ?_
  obtain ⟨pay, hpay⟩ : ∃ p, p = (finalPay D.F x known).1 := ⟨_, rfl⟩
  rw [← hpay]
  have HPAY := Lib.hid hpay
  clear hpay
  rintro en w2 ⟨rfl, hs2⟩
  replace h1 := h1.same hs2
  replace h2 := h2.same hs2
  have S2 := S1.trans hs2
  clear hs2 S1
  have b1 := h2.cell 1 rfl
  have bL := h2.lt
  have a2 := h1.cell 2 rfl
  have aL := h1.lt
  go_wp2_with fail
  clear b1 bL a2 aL
  refine (iIndexRatio_any m.p m.pc D.P D.joined x known _ hD.P (hA.same S2).points).mono ?_
  have HRT : Hid (ratioOf D.P D.joined x known = if (indexRatio D.P D.joined x known).2.2 then ((indexRatio D.P D.joined x known).1, (indexRatio D.P D.joined x known).2.1) else (1, 1)) := rfl
  obtain ⟨r, hr⟩ : ∃ r, r = indexRatio D.P D.joined x known := ⟨_, rfl⟩
  rw [← hr] at HRT ⊢
  clear hr
  obtain ⟨q1, q2, qb⟩ := r
  dsimp only at HRT ⊢
  rintro en w3 ⟨rfl, hs3⟩
  replace h1 := h1.same hs3
  replace h2 := h2.same hs3
  have S3 := S2.trans hs3
  clear hs3 S2
  have h4 := BoxAt.new w3 101 [.int .i64 q1, .int .i64 q2]
  have hsa := (Same.refl w3).alloc (.cells #[.int .i64 q1, .int .i64 q2] 101)
  obtain ⟨⟨r1, r2⟩, hrr⟩ : ∃ r, r = ratioOf D.P D.joined x known := ⟨_, rfl⟩
  have HRR := Lib.hid hrr
  rw [← hrr] at HRT
  clear hrr
  go_upto_if 57 with (fail)
  generalize w3.alloc (.cells #[.int .i64 q1, .int .i64 q2] 101) = w4 at *
  go_cut [] from 58 to 58 (fun wx => BoxAt wx w3.heap.size 101 [.int .i64 r1, .int .i64 r2] ∧ Same w3 wx)
  case first =>
    have x0 := h4.cell 0 rfl
    have x1 := h4.cell 1 rfl
    have xf0 := h4.frozen 0
    have xf1 := h4.frozen 1
    have xL := h4.lt
    cases qb
    · have hrq : (r1, r2) = ((1, 1) : TFrac) := HRT.out
      injection hrq with hq1 hq2
      have h5 := (h4.set 0 (.int .i64 1)).set 1 (.int .i64 1)
      have hs5 := (hsa.setCell (p := ⟨w3.heap.size, 0, none⟩) (Nat.le_refl _) (.int .i64 1)).setCell (p := ⟨w3.heap.size, 1, none⟩) (Nat.le_refl _) (.int .i64 1)
      subst hq1 hq2
      go_wp2_with fail
      go_meet
      exact ⟨h5, hs5⟩
    · have hrq : (r1, r2) = ((q1, q2) : TFrac) := HRT.out
      injection hrq with hq1 hq2
      subst hq1 hq2
      go_wp2_with fail
      go_meet
      exact ⟨h4, hsa⟩
  case rest =>
  obtain ⟨h4, hs5⟩ := hcut
  generalize wc = w5 at *
  replace h1 := h1.same hs5
  replace h2 := h2.same hs5
  have S5 := S3.trans hs5
  clear hs5 S3 hsa
  have b3 := h2.cell 3 rfl
  have bL := h2.lt
  go_wp2_with fail
  clear b3 bL
  refine (iMonthOfKind_any m.e m.ec D.E 3 _ hD.E (hA.same S5).events).mono ?_
  have HSN : Hid (sinceOf D.E x = if decide (0 ≤ monthOfKind D.E 3) && decide (monthOfKind D.E 3 ≤ x) then x - monthOfKind D.E 3 else 0) := rfl
  obtain ⟨mk, hmk⟩ : ∃ k, k = monthOfKind D.E 3 := ⟨_, rfl⟩
  rw [← hmk] at HSN ⊢
  clear hmk
  obtain ⟨since, hsince⟩ : ∃ s, s = sinceOf D.E x := ⟨_, rfl⟩
  rw [← hsince] at HSN
  have HSI := Lib.hid hsince
  clear hsince
  rintro en w6 ⟨rfl, hs6⟩
  replace h1 := h1.same hs6
  replace h2 := h2.same hs6
  replace h4 := h4.same hs6
  have S6 := S5.trans hs6
  clear hs6 S5
  go_upto_region 9 with (fail)
  go_cut [68] from 62 to 68 (fun t68 wx => t68 = .bool (!(decide (0 ≤ mk) && decide (mk ≤ x))) ∧ w6 = wx)
  case first =>
    by_cases e1 : 0 ≤ mk
    · by_cases e2 : mk ≤ x
      · go_wp2_with fail
        go_meet
        exact ⟨by simp [e1, e2], rfl⟩
      · go_wp2_with fail
        go_meet
        exact ⟨by simp [e1, e2], rfl⟩
    · go_wp2_with fail
      go_meet
      exact ⟨by simp [e1], rfl⟩
  case rest =>
  obtain ⟨rfl, rfl⟩ := hcut
  have HRE := Lib.hid (show (if (decide (0 ≤ mk) && decide (mk ≤ x)) = true then mk else x) = x - since by rw [HSN.out]; split <;> omega)
  have hsr : 0 ≤ since ∧ since ≤ 3599 := by rw [HSN.out]; split <;> (try simp_all) <;> omega
  obtain ⟨bb, hbb⟩ : ∃ b, b = (decide (0 ≤ mk) && decide (mk ≤ x)) := ⟨_, rfl⟩
  rw [← hbb] at HRE ⊢
  clear hbb HSN
  go_upto_if 68 with (fail)
  go_cut [13] from 69 to 69 (fun t13 wx => t13 = .int .i64 (x - since) ∧ w6 = wx)
  case first =>
    cases bb
    · have hq : x = x - since := HRE.out
      have HQ := Lib.hid hq
      clear hq
      go_wp2_with fail
      go_meet
      exact ⟨by rw [← HQ.out], rfl⟩
    · have hq : mk = x - since := HRE.out
      have HQ := Lib.hid hq
      clear hq
      go_wp2_with fail
      go_meet
      exact ⟨by rw [HQ.out], rfl⟩
  case rest =>
  obtain ⟨rfl, rfl⟩ := hcut
  have b2 := h2.cell 2 rfl
  have bL := h2.lt
  go_wp2_with fail
  clear b2 bL
  refine (iServiceIn_any m.s m.sc D.S 0 x _ hD.S (hA.same S6).spells rfl HXE.out).mono ?_
  have hsv := service_range 0 x HSP.out.1 HSP.out.2
  have HSE : Hid (service D x = lowest (serviceIn D.S 0 x) 100) := rfl
  obtain ⟨sv, hsv2⟩ : ∃ s, s = serviceIn D.S 0 x := ⟨_, rfl⟩
  rw [← hsv2] at hsv HSE ⊢
  clear hsv2
  rintro en w7 ⟨rfl, hs7⟩
  go_wp2_with fail
  refine (reduced_any sv 100 _ (by omega) (by omega) (by omega)).mono ?_
  rw [← HSE.out]
  have HLO := Lib.hid (lowest_ok_eq sv 100)
  rw [← HSE.out] at HLO
  obtain ⟨sr, hsr2⟩ : ∃ s, s = service D x := ⟨_, rfl⟩
  rw [← hsr2] at HLO ⊢
  have HSR := Lib.hid hsr2
  clear hsr2
  obtain ⟨s1, s2, sb⟩ := sr
  dsimp only at HLO ⊢
  rintro en w8 ⟨rfl, hs8⟩
  have T8 := hs7.trans hs8
  replace h1 := h1.same T8
  replace h2 := h2.same T8
  replace h4 := h4.same T8
  have S8 := S6.trans T8
  clear hs7 hs8 T8 S6
  have h5 := BoxAt.new w8 101 [.int .i64 s1, .int .i64 s2]
  have hsb := (Same.refl w8).alloc (.cells #[.int .i64 s1, .int .i64 s2] 101)
  obtain ⟨age, hage⟩ : ∃ a, a = ageDone D.birth x := ⟨_, rfl⟩
  have HAGE := Lib.hid hage
  clear hage
  go_upto_region 12 with (fail)
  generalize w8.alloc (.cells #[.int .i64 s1, .int .i64 s2] 101) = w9 at *
  replace h2 := h2.same hsb
  replace h4 := h4.same hsb
  have S9 := S8.trans hsb
  clear hsb S8 h1
  go_cut [16] from 78 to 95 (fun t16 wx => ∃ g, t16 = .slice (some ⟨g, 0, none⟩) 8 8 ∧ w9.heap.size ≤ g ∧ BoxAt wx g 101 [.int .i64 s1, .int .i64 s2, .int .i64 pay, .int .i64 1, .int .i64 age, .int .i64 1, .int .i64 r1, .int .i64 r2, .int .i64 since, .int .i64 1, .int .i64 x, .int .i64 1, .int .i64 0, .int .i64 1, .int .i64 0, .int .i64 1] ∧ Same w9 wx)
  case first =>
    refine wp_region_fill [78, 79, 80, 81, 82, 83, 84, 85, 86, 87, 88, 89, 90, 91, 92, 93, 94, 95, 16] (by kernel_rfl) (by kernel_rfl) (VarInv w9 (w.heap.size + 1) s1 s2 pay D.birth x age r1 r2 (x - since) since) ?_ ?_ ?_
    · exact VarInv.start (Same.refl w9).drew
    · refine ⟨⟨by rfl, ?_⟩, ⟨by rfl, ?_⟩, ⟨by rfl, ?_⟩, ⟨by rfl, ?_⟩, ⟨by rfl, ?_⟩, ⟨by rfl, ?_⟩, ⟨by rfl, ?_⟩, ⟨by rfl, ?_⟩, ⟨by rfl, ?_⟩, ⟨by rfl, ?_⟩, ⟨by rfl, ?_⟩, ⟨by rfl, ?_⟩, ⟨by rfl, ?_⟩, ⟨by rfl, ?_⟩, ⟨by rfl, ?_⟩, ⟨by rfl, ?_⟩, ⟨by rfl, ?_⟩, ⟨by rfl, ?_⟩, ⟨by rfl, ?_⟩, trivial⟩
      all_goals intro l t w1 K' hK i hl hd
      all_goals simp [Region.binds] at hd
      all_goals simp only [fill, List.foldl, Act.put, List.setIfInBounds_toArray, List.set_cons_zero, List.set_cons_succ]
      · have y0 := (h5.same i.same).cell 0 rfl
        have y1 := (h5.same i.same).cell 1 rfl
        go_simp
        have H := hK _ _ (i.q0)
        simp only [fill, List.foldl, Act.put, List.setIfInBounds_toArray, List.set_cons_zero, List.set_cons_succ, updT, Nat.reduceEqDiff, reduceIte] at H
        exact H
      · skip
        go_simp
        have H := hK _ _ (i.q1)
        simp only [fill, List.foldl, Act.put, List.setIfInBounds_toArray, List.set_cons_zero, List.set_cons_succ, updT, Nat.reduceEqDiff, reduceIte] at H
        exact H
      · have e1 := i.a1 hd
        go_simp
        go_at_call 64
        refine (whole_any pay _).mono ?_
        rintro en w2 ⟨rfl, hs2⟩
        have H := hK _ _ ((i.world hs2).q2)
        simp only [fill, List.foldl, Act.put, List.setIfInBounds_toArray, List.set_cons_zero, List.set_cons_succ, updT, Nat.reduceEqDiff, reduceIte, e1] at H
        dsimp only
        exact H
      · skip
        go_simp
        have H := hK _ _ (i.q3)
        simp only [fill, List.foldl, Act.put, List.setIfInBounds_toArray, List.set_cons_zero, List.set_cons_succ, updT, Nat.reduceEqDiff, reduceIte] at H
        exact H
      · have e3 := i.a3 hd
        have y0 := (h2.same i.same).cell 0 rfl
        go_simp
        have H := hK _ _ (i.q4)
        simp only [fill, List.foldl, Act.put, List.setIfInBounds_toArray, List.set_cons_zero, List.set_cons_succ, updT, Nat.reduceEqDiff, reduceIte, e3] at H
        exact H
      · skip
        go_simp
        have H := hK _ _ (i.q5)
        simp only [fill, List.foldl, Act.put, List.setIfInBounds_toArray, List.set_cons_zero, List.set_cons_succ, updT, Nat.reduceEqDiff, reduceIte] at H
        exact H
      · have e4 := i.a4 hd.1
        have e5 := i.a5 hd.2.1
        go_simp
        go_at_call 65
        refine (iAgeAt_any D.birth x _).mono ?_
        rintro en w2 ⟨rfl, rfl⟩
        rw [← HAGE.out]
        have H := hK _ _ (i.q6)
        simp only [fill, List.foldl, Act.put, List.setIfInBounds_toArray, List.set_cons_zero, List.set_cons_succ, updT, Nat.reduceEqDiff, reduceIte, e4, e5] at H
        dsimp only
        exact H
      · have e6 := i.a6 hd
        go_simp
        go_at_call 64
        refine (whole_any age _).mono ?_
        rintro en w2 ⟨rfl, hs2⟩
        have H := hK _ _ ((i.world hs2).q7)
        simp only [fill, List.foldl, Act.put, List.setIfInBounds_toArray, List.set_cons_zero, List.set_cons_succ, updT, Nat.reduceEqDiff, reduceIte, e6] at H
        dsimp only
        exact H
      · have y0 := (h4.same i.same).cell 0 rfl
        have y1 := (h4.same i.same).cell 1 rfl
        go_simp
        have H := hK _ _ (i.q8)
        simp only [fill, List.foldl, Act.put, List.setIfInBounds_toArray, List.set_cons_zero, List.set_cons_succ, updT, Nat.reduceEqDiff, reduceIte] at H
        exact H
      · skip
        go_simp
        have H := hK _ _ (i.q9)
        simp only [fill, List.foldl, Act.put, List.setIfInBounds_toArray, List.set_cons_zero, List.set_cons_succ, updT, Nat.reduceEqDiff, reduceIte] at H
        exact H
      · skip
        go_simp
        have H := hK _ _ (i.q10)
        simp only [fill, List.foldl, Act.put, List.setIfInBounds_toArray, List.set_cons_zero, List.set_cons_succ, updT, Nat.reduceEqDiff, reduceIte] at H
        exact H
      · have e9 := i.a9 hd.1
        have e10 := i.a10 hd.2
        have hsub : x - (x - since) = since := by omega
        have hwr : IntKind.i64.wrap since = since := IntWalk.i64_in _ (by omega)
        go_simp
        have H := hK _ _ (i.q11)
        simp only [fill, List.foldl, Act.put, List.setIfInBounds_toArray, List.set_cons_zero, List.set_cons_succ, updT, Nat.reduceEqDiff, reduceIte, e9, e10] at H
        exact H
      · have e11 := i.a11 hd.1
        go_simp
        go_at_call 64
        refine (whole_any since _).mono ?_
        rintro en w2 ⟨rfl, hs2⟩
        have H := hK _ _ ((i.world hs2).q12)
        simp only [fill, List.foldl, Act.put, List.setIfInBounds_toArray, List.set_cons_zero, List.set_cons_succ, updT, Nat.reduceEqDiff, reduceIte, e11] at H
        dsimp only
        exact H
      · skip
        go_simp
        have H := hK _ _ (i.q13)
        simp only [fill, List.foldl, Act.put, List.setIfInBounds_toArray, List.set_cons_zero, List.set_cons_succ, updT, Nat.reduceEqDiff, reduceIte] at H
        exact H
      · have e13 := i.a13 hd.1
        go_simp
        go_at_call 64
        refine (whole_any x _).mono ?_
        rintro en w2 ⟨rfl, hs2⟩
        have H := hK _ _ ((i.world hs2).q14)
        simp only [fill, List.foldl, Act.put, List.setIfInBounds_toArray, List.set_cons_zero, List.set_cons_succ, updT, Nat.reduceEqDiff, reduceIte, e13] at H
        dsimp only
        exact H
      · skip
        go_simp
        go_at_call 64
        refine (whole_any 0 _).mono ?_
        rintro en w2 ⟨rfl, hs2⟩
        have H := hK _ _ ((i.world hs2).q15)
        simp only [fill, List.foldl, Act.put, List.setIfInBounds_toArray, List.set_cons_zero, List.set_cons_succ, updT, Nat.reduceEqDiff, reduceIte] at H
        dsimp only
        exact H
      · skip
        go_simp
        go_at_call 64
        refine (whole_any 0 _).mono ?_
        rintro en w2 ⟨rfl, hs2⟩
        have H := hK _ _ ((i.world hs2).q16)
        simp only [fill, List.foldl, Act.put, List.setIfInBounds_toArray, List.set_cons_zero, List.set_cons_succ, updT, Nat.reduceEqDiff, reduceIte] at H
        dsimp only
        exact H
      · obtain ⟨d0, d2, d7, d8, d12, d14, d15, d16⟩ := hd
        have e0 := i.a0 d0
        have e2 := i.a2 d2
        have e7 := i.a7 d7
        have e8 := i.a8 d8
        have e12 := i.a12 d12
        have e14 := i.a14 d14
        have e15 := i.a15 d15
        have e16 := i.a16 d16
        go_simp
        have H := hK _ _ (i.q17 hl)
        simp only [fill, List.foldl, Act.put, List.setIfInBounds_toArray, List.set_cons_zero, List.set_cons_succ, updT, Nat.reduceEqDiff, reduceIte, e0, e2, e7, e8, e12, e14, e15, e16] at H
        exact H
      · obtain ⟨g, e, _, _⟩ := i.a17 hd.1
        go_simp
        have H := hK _ _ (i.q18 hd.1)
        simp only [fill, List.foldl, Act.put, List.setIfInBounds_toArray, List.set_cons_zero, List.set_cons_succ, updT, Nat.reduceEqDiff, reduceIte, e] at H
        exact H
    · intro l t w1 hl i
      obtain ⟨g, e, hg, hb⟩ := i.a17 (hl 17 (by decide))
      have e18 := i.a18 (hl 18 (by decide))
      have hsm := i.same
      rw [e] at e18
      simp only [fill, List.foldl, Act.put, List.setIfInBounds_toArray, List.set_cons_zero, List.set_cons_succ]
      clear i hl e
      generalize t 16 = t16 at e18 ⊢
      subst e18
      go_wp2_with fail
      go_meet
      exact ⟨g, rfl, hg, hb, hsm⟩
  case rest =>
  obtain ⟨g, rfl, hg, hb, hs10⟩ := hcut
  generalize wc = w10 at *
  have S10 := S9.trans hs10
  have HVO := Lib.hid (show varsOf D x known = [(s1, s2), (pay, 1), (age, 1), (r1, r2), (since, 1), (x, 1), (0, 1), (0, 1)] by unfold varsOf; rw [← HSR.out, ← HPAY.out, ← HAGE.out, ← HRR.out, ← HSI.out])
  have hown : OwnFrac w10 w.heap.size (.slice (some ⟨g, 0, none⟩) 8 8) [(s1, s2), (pay, 1), (age, 1), (r1, r2), (since, 1), (x, 1), (0, 1), (0, 1)] := OwnR.of_box (L := [(s1, s2), (pay, 1), (age, 1), (r1, r2), (since, 1), (x, 1), (0, 1), (0, 1)]) hb (by have := S9.size; omega) rfl rfl (by simp)
  rw [← HVO.out] at hown
  have h8 : (varsOf D x known).length = 8 := by rw [HVO.out]; rfl
  clear h2 h4 h5 hb hs10
  cases sb
  · have HF := Lib.hid (varsIn_un (show fracsOk (varsOf D x known) = false by rw [HVO.out]; unfold fracsOk; rw [List.all_cons, show fracOk s1 s2 = false from HLO.out]; rfl))
    have HV := Lib.hid (show varsFor D x known = ([], false) by rw [HIN.out, HF.out])
    go_wp2
    go_ret2
    exact RetV.nil HV.out S10
  have HC := Lib.hid (fun (wz : World) (hoz : OwnFrac wz w.heap.size (.slice (some ⟨g, 0, none⟩) 8 8) (varsOf D x known)) => show Calls Tryz.prog 66 #[.slice (some ⟨g, 0, none⟩) 8 8, .func (.func 67) #[] #[]] wz _ from by have hh := containsV_any (some ⟨g, 0, none⟩) 8 (varsOf D x known) wz (by omega) (OwnR.recs cFrac_len hoz); rw [h8] at hh; exact hh)
  cases hf : fracsOk (varsOf D x known)
  · have HV := Lib.hid (show varsFor D x known = ([], false) by rw [HIN.out]; exact varsIn_un hf)
    rw [hf] at HC
    clear hf
    go_wp2_with fail
    refine (HC.out _ hown).mono ?_
    rintro en w11 ⟨rfl, hs11⟩
    go_wp2
    go_ret2
    exact RetV.nil HV.out (S10.trans hs11)
  · have HV := Lib.hid (show varsFor D x known = (varsOf D x known, true) by rw [HIN.out]; exact varsIn_yes HRG.out hf)
    rw [hf] at HC
    clear hf
    have H8 := Lib.hid h8
    clear h8
    go_wp2_with fail
    refine (HC.out _ hown).mono ?_
    rintro en w11 ⟨rfl, hs11⟩
    go_wp2
    go_ret2
    exact ⟨some ⟨g, 0, none⟩, 8, by rw [HV.out]; dsimp only; rw [H8.out]; rfl, by rw [HV.out]; dsimp only; rw [H8.out]; exact hown.same hs11, S10.trans hs11⟩
end Go.Proofs.YtjfmknhnplefnaaGreat
