/-
  Valid cases; the rule that a case uses.
-/
import Derived.Test.YtjfmknhnplefnaaGreatZStoreOk
import Derived.Test.YtjfmknhnplefnaaGreatZEventsOk
import Derived.Test.YtjfmknhnplefnaaGreatZRuleFor
import Derived.Test.YtjfmknhnplefnaaGreatZCaseMem
namespace Go.Proofs.YtjfmknhnplefnaaGreat
open Go.RowKit
set_option linter.unusedVariables false

def TCase.ok (D : TCase) : Bool := caseOk D.R D.F D.P D.birth D.joined D.S D.E
theorem TCase.ok_eq (D : TCase) : D.ok = (bookOk D.R && storeOk D.F && seriesOk D.P && memberOk D.birth D.joined D.S D.E) := rfl
def ruleUsed (D : TCase) (m : Int) : Int := if D.ok = true then bestTo D.R 1 m D.joined D.R.length else -1
theorem ruleUsed_no {D : TCase} {m : Int} (h : D.ok = false) : ruleUsed D m = -1 := by rw [ruleUsed, h]; rfl
theorem ruleUsed_yes {D : TCase} {m : Int} (h : D.ok = true) : ruleUsed D m = bestTo D.R 1 m D.joined D.R.length := by rw [ruleUsed, if_pos h]
theorem TCase.ok_book {D : TCase} (h : D.ok = true) : bookOk D.R = true := by
  rw [D.ok_eq] at h
  simp only [Bool.and_eq_true] at h
  exact h.1.1.1
theorem OwnRules.cap {w : World} {base n c : Nat} {A : Option Addr} {R : List TRule} (h : OwnRules w base (.slice A n c) R) : n ≤ c := by
  obtain ⟨L, _, h2, _⟩ := h
  rcases h2.2 with ⟨hv, hn⟩ | ⟨g', cap, cur, hv, _, _, hnc, _⟩
  · injection hv with _ hn' hc
    omega
  · injection hv with _ hn' hc
    omega

set_option maxHeartbeats 2000000 in
theorem iCaseOk_any (D : TCase) (m : CMem) (w : World) (hD : D.Small 1048576) (hcap : D.R.length ≤ m.rc) (hA : CaseAt w D m) :
    Calls Tryz.prog 14 #[.agg #[.slice m.r D.R.length m.rc, .slice m.f D.F.length m.fc, .slice m.p D.P.length m.pc, .int .i64 D.birth, .int .i64 D.joined, .slice m.s D.S.length m.sc, .slice m.e D.E.length m.ec]] w fun e w' => e = .returned (.bool D.ok) ∧ Same w w' := by
  have HR := Lib.hid D.ok_eq
  go_enter Tryz.func14, Tryz.ntmps14
  go_wp2_with fail
  have h1 : BoxAt (w.alloc (.cells #[.slice m.r D.R.length m.rc, .slice m.f D.F.length m.fc, .slice m.p D.P.length m.pc, .int .i64 D.birth, .int .i64 D.joined, .slice m.s D.S.length m.sc, .slice m.e D.E.length m.ec] 38)) (w.heap.size) 38 [.slice m.r D.R.length m.rc, .slice m.f D.F.length m.fc, .slice m.p D.P.length m.pc, .int .i64 D.birth, .int .i64 D.joined, .slice m.s D.S.length m.sc, .slice m.e D.E.length m.ec] := by simpa using (BoxAt.new w 38 [.slice m.r D.R.length m.rc, .slice m.f D.F.length m.fc, .slice m.p D.P.length m.pc, .int .i64 D.birth, .int .i64 D.joined, .slice m.s D.S.length m.sc, .slice m.e D.E.length m.ec])
  have hs0 := (Same.alloc (Same.refl w) (.cells #[.slice m.r D.R.length m.rc, .slice m.f D.F.length m.fc, .slice m.p D.P.length m.pc, .int .i64 D.birth, .int .i64 D.joined, .slice m.s D.S.length m.sc, .slice m.e D.E.length m.ec] 38))
  generalize (w.alloc (.cells #[.slice m.r D.R.length m.rc, .slice m.f D.F.length m.fc, .slice m.p D.P.length m.pc, .int .i64 D.birth, .int .i64 D.joined, .slice m.s D.S.length m.sc, .slice m.e D.E.length m.ec] 38)) = w0 at *
  have hA0 := hA.same hs0
  refine (iBookOk_any m.r m.rc D.R _ hD.R hcap hD.N hA0.rules).mono ?_
  rintro e w1 ⟨rfl, t1⟩
  have a0 := (h1.same t1).cell 1 rfl
  cases m1 : bookOk D.R
  · have HV := Lib.hid (show D.ok = false by rw [HR.out, m1]; rfl)
    clear m1 a0
    go_wp2
    go_ret
    exact ⟨ret_bool HV.out.symm, hs0.trans t1⟩
  go_wp2_with fail
  refine (iStoreOk_any m.f m.fc D.F _ hD.F (hA0.same t1).facts).mono ?_
  rintro e w2 ⟨rfl, t2⟩
  have T2 := t1.trans t2
  clear a0
  have a0 := (h1.same T2).cell 2 rfl
  cases m2 : storeOk D.F
  · have HV := Lib.hid (show D.ok = false by rw [HR.out, m1, m2]; rfl)
    clear m1 m2 a0
    go_wp2
    go_ret
    exact ⟨ret_bool HV.out.symm, hs0.trans T2⟩
  go_wp2_with fail
  refine (iSeriesOk_any m.p m.pc D.P _ hD.P (hA0.same T2).points).mono ?_
  rintro e w3 ⟨rfl, t3⟩
  have T3 := T2.trans t3
  clear a0
  have a0 := (h1.same T3).cell 3 rfl
  have a1 := (h1.same T3).cell 4 rfl
  have a2 := (h1.same T3).cell 5 rfl
  have a3 := (h1.same T3).cell 6 rfl
  cases m3 : seriesOk D.P
  · have HV := Lib.hid (show D.ok = false by rw [HR.out, m1, m2, m3]; rfl)
    clear m1 m2 m3 a0 a1 a2 a3
    go_wp2
    go_ret
    exact ⟨ret_bool HV.out.symm, hs0.trans T3⟩
  go_wp2_with fail
  refine (iMemberOk_any D.birth D.joined m.s m.sc D.S m.e m.ec D.E _ hD.S hD.E (hA0.same T3).spells (hA0.same T3).events).mono ?_
  rintro e w4 ⟨rfl, t4⟩
  have HV := Lib.hid (show D.ok = memberOk D.birth D.joined D.S D.E by rw [HR.out, m1, m2, m3]; rfl)
  clear m1 m2 m3 a0 a1 a2 a3
  go_wp2
  go_ret
  exact ⟨ret_bool HV.out.symm, (hs0.trans T3).trans t4⟩

set_option maxHeartbeats 2000000 in
theorem sCaseOk_any (D : TCase) (m : CMem) (w : World) (hD : D.Small 1048576) (hcap : D.R.length ≤ m.rc) (hA : CaseAt w D m) :
    Calls Tryz.prog 15 #[.agg #[.slice m.r D.R.length m.rc, .slice m.f D.F.length m.fc, .slice m.p D.P.length m.pc, .int .i64 D.birth, .int .i64 D.joined, .slice m.s D.S.length m.sc, .slice m.e D.E.length m.ec]] w fun e w' => e = .returned (.bool D.ok) ∧ Same w w' := by
  have HR := Lib.hid D.ok_eq
  go_enter Tryz.func15, Tryz.ntmps15
  go_wp2_with fail
  have h1 : BoxAt (w.alloc (.cells #[.slice m.r D.R.length m.rc, .slice m.f D.F.length m.fc, .slice m.p D.P.length m.pc, .int .i64 D.birth, .int .i64 D.joined, .slice m.s D.S.length m.sc, .slice m.e D.E.length m.ec] 38)) (w.heap.size) 38 [.slice m.r D.R.length m.rc, .slice m.f D.F.length m.fc, .slice m.p D.P.length m.pc, .int .i64 D.birth, .int .i64 D.joined, .slice m.s D.S.length m.sc, .slice m.e D.E.length m.ec] := by simpa using (BoxAt.new w 38 [.slice m.r D.R.length m.rc, .slice m.f D.F.length m.fc, .slice m.p D.P.length m.pc, .int .i64 D.birth, .int .i64 D.joined, .slice m.s D.S.length m.sc, .slice m.e D.E.length m.ec])
  have hs0 := (Same.alloc (Same.refl w) (.cells #[.slice m.r D.R.length m.rc, .slice m.f D.F.length m.fc, .slice m.p D.P.length m.pc, .int .i64 D.birth, .int .i64 D.joined, .slice m.s D.S.length m.sc, .slice m.e D.E.length m.ec] 38))
  generalize (w.alloc (.cells #[.slice m.r D.R.length m.rc, .slice m.f D.F.length m.fc, .slice m.p D.P.length m.pc, .int .i64 D.birth, .int .i64 D.joined, .slice m.s D.S.length m.sc, .slice m.e D.E.length m.ec] 38)) = w0 at *
  have hA0 := hA.same hs0
  refine (sBookOk_any m.r m.rc D.R _ hD.R hcap hD.N hA0.rules).mono ?_
  rintro e w1 ⟨rfl, t1⟩
  have a0 := (h1.same t1).cell 1 rfl
  cases m1 : bookOk D.R
  · have HV := Lib.hid (show D.ok = false by rw [HR.out, m1]; rfl)
    clear m1 a0
    go_wp2
    go_ret
    exact ⟨ret_bool HV.out.symm, hs0.trans t1⟩
  go_wp2_with fail
  refine (sStoreOk_any m.f m.fc D.F _ hD.F (hA0.same t1).facts).mono ?_
  rintro e w2 ⟨rfl, t2⟩
  have T2 := t1.trans t2
  clear a0
  have a0 := (h1.same T2).cell 2 rfl
  cases m2 : storeOk D.F
  · have HV := Lib.hid (show D.ok = false by rw [HR.out, m1, m2]; rfl)
    clear m1 m2 a0
    go_wp2
    go_ret
    exact ⟨ret_bool HV.out.symm, hs0.trans T2⟩
  go_wp2_with fail
  refine (sSeriesOk_any m.p m.pc D.P _ hD.P (hA0.same T2).points).mono ?_
  rintro e w3 ⟨rfl, t3⟩
  have T3 := T2.trans t3
  clear a0
  have a0 := (h1.same T3).cell 3 rfl
  have a1 := (h1.same T3).cell 4 rfl
  have a2 := (h1.same T3).cell 5 rfl
  have a3 := (h1.same T3).cell 6 rfl
  cases m3 : seriesOk D.P
  · have HV := Lib.hid (show D.ok = false by rw [HR.out, m1, m2, m3]; rfl)
    clear m1 m2 m3 a0 a1 a2 a3
    go_wp2
    go_ret
    exact ⟨ret_bool HV.out.symm, hs0.trans T3⟩
  go_wp2_with fail
  refine (sMemberOk_any D.birth D.joined m.s m.sc D.S m.e m.ec D.E _ hD.S hD.E (hA0.same T3).spells (hA0.same T3).events).mono ?_
  rintro e w4 ⟨rfl, t4⟩
  have HV := Lib.hid (show D.ok = memberOk D.birth D.joined D.S D.E by rw [HR.out, m1, m2, m3]; rfl)
  clear m1 m2 m3 a0 a1 a2 a3
  go_wp2
  go_ret
  exact ⟨ret_bool HV.out.symm, (hs0.trans T3).trans t4⟩

set_option maxHeartbeats 2000000 in
theorem iRuleUsed_any (D : TCase) (m : CMem) (x : Int) (w : World) (hD : D.Small 1048576) (hcap : D.R.length ≤ m.rc) (hA : CaseAt w D m) :
    Calls Tryz.prog 19 #[.agg #[.slice m.r D.R.length m.rc, .slice m.f D.F.length m.fc, .slice m.p D.P.length m.pc, .int .i64 D.birth, .int .i64 D.joined, .slice m.s D.S.length m.sc, .slice m.e D.E.length m.ec], .int .i64 x] w fun e w' => e = .returned (.int .i64 (ruleUsed D x)) ∧ Same w w' := by
  cases hok : D.ok
  · have HV := Lib.hid (ruleUsed_no (m := x) hok)
    go_enter Tryz.func19, Tryz.ntmps19
    go_wp2_with fail
    refine (iCaseOk_any D m _ hD hcap (hA.same ((Same.refl w).alloc _))).mono ?_
    rintro e w1 ⟨rfl, t1⟩
    rw [hok]
    clear hok
    go_wp2
    go_ret
    exact ⟨ret_int HV.out.symm, ((Same.refl w).alloc _).trans t1⟩
  · have HV := Lib.hid (ruleUsed_yes (m := x) hok)
    have HB := Lib.hid (TCase.ok_book hok)
    go_enter Tryz.func19, Tryz.ntmps19
    go_wp2_with fail
    have h1 : BoxAt (w.alloc (.cells #[.slice m.r D.R.length m.rc, .slice m.f D.F.length m.fc, .slice m.p D.P.length m.pc, .int .i64 D.birth, .int .i64 D.joined, .slice m.s D.S.length m.sc, .slice m.e D.E.length m.ec] 38)) (w.heap.size) 38 [.slice m.r D.R.length m.rc, .slice m.f D.F.length m.fc, .slice m.p D.P.length m.pc, .int .i64 D.birth, .int .i64 D.joined, .slice m.s D.S.length m.sc, .slice m.e D.E.length m.ec] := by simpa using (BoxAt.new w 38 [.slice m.r D.R.length m.rc, .slice m.f D.F.length m.fc, .slice m.p D.P.length m.pc, .int .i64 D.birth, .int .i64 D.joined, .slice m.s D.S.length m.sc, .slice m.e D.E.length m.ec])
    have hs0 := (Same.alloc (Same.refl w) (.cells #[.slice m.r D.R.length m.rc, .slice m.f D.F.length m.fc, .slice m.p D.P.length m.pc, .int .i64 D.birth, .int .i64 D.joined, .slice m.s D.S.length m.sc, .slice m.e D.E.length m.ec] 38))
    generalize (w.alloc (.cells #[.slice m.r D.R.length m.rc, .slice m.f D.F.length m.fc, .slice m.p D.P.length m.pc, .int .i64 D.birth, .int .i64 D.joined, .slice m.s D.S.length m.sc, .slice m.e D.E.length m.ec] 38)) = w0 at *
    have hA0 := hA.same hs0
    refine (iCaseOk_any D m _ hD hcap hA0).mono ?_
    rintro e w1 ⟨rfl, t1⟩
    rw [hok]
    clear hok
    have a0 := (h1.same t1).cell 0 rfl
    have a1 := (h1.same t1).cell 4 rfl
    go_wp2_with fail
    refine (iRuleFor_any m.r m.rc D.R 1 x D.joined _ hD.R hcap hD.N (hA0.same t1).rules).mono ?_
    rintro e w2 ⟨rfl, t2⟩
    clear a0 a1
    go_wp2
    go_ret
    exact ⟨ret_int (by rw [HV.out]; rw [ruleFor, if_pos HB.out]), (hs0.trans t1).trans t2⟩
end Go.Proofs.YtjfmknhnplefnaaGreat
