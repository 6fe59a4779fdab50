/-
  The entitlement of a case at a month, either side.
-/
import Derived.Test.YtjfmknhnplefnaaGreatZVarsS
import Derived.Test.YtjfmknhnplefnaaGreatZFigure
namespace Go.Proofs.YtjfmknhnplefnaaGreat
open Go.RowKit
set_option linter.unusedVariables false
set_option linter.unusedSimpArgs false

set_option maxHeartbeats 2000000 in
theorem sVarsFor_any (D : TCase) (m : CMem) (x known : Int) (w : World) (hD : D.Small 1048576) (hcap : D.R.length ≤ m.rc) (hA : CaseAt w D m) :
    Calls Tryz.prog 27 #[.agg #[.slice m.r D.R.length m.rc, .slice m.f D.F.length m.fc, .slice m.p D.P.length m.pc, .int .i64 D.birth, .int .i64 D.joined, .slice m.s D.S.length m.sc, .slice m.e D.E.length m.ec], .int .i64 x, .int .i64 known] w (RetV w (varsFor D x known)) := by
  cases hok : D.ok
  · have HV := Lib.hid (varsFor_bad (m := x) (known := known) hok)
    have HOK := Lib.hid hok
    clear hok
    go_enter Tryz.func27, Tryz.ntmps27
    go_wp2_with fail
    have h1 : BoxAt (w.alloc (.cells #[.slice m.r D.R.length m.rc, .slice m.f D.F.length m.fc, .slice m.p D.P.length m.pc, .int .i64 D.birth, .int .i64 D.joined, .slice m.s D.S.length m.sc, .slice m.e D.E.length m.ec] 38)) (w.heap.size) 38 [.slice m.r D.R.length m.rc, .slice m.f D.F.length m.fc, .slice m.p D.P.length m.pc, .int .i64 D.birth, .int .i64 D.joined, .slice m.s D.S.length m.sc, .slice m.e D.E.length m.ec] := by simpa using (BoxAt.new w 38 [.slice m.r D.R.length m.rc, .slice m.f D.F.length m.fc, .slice m.p D.P.length m.pc, .int .i64 D.birth, .int .i64 D.joined, .slice m.s D.S.length m.sc, .slice m.e D.E.length m.ec])
    have hs0 := (Same.alloc (Same.refl w) (.cells #[.slice m.r D.R.length m.rc, .slice m.f D.F.length m.fc, .slice m.p D.P.length m.pc, .int .i64 D.birth, .int .i64 D.joined, .slice m.s D.S.length m.sc, .slice m.e D.E.length m.ec] 38))
    generalize (w.alloc (.cells #[.slice m.r D.R.length m.rc, .slice m.f D.F.length m.fc, .slice m.p D.P.length m.pc, .int .i64 D.birth, .int .i64 D.joined, .slice m.s D.S.length m.sc, .slice m.e D.E.length m.ec] 38)) = w0 at *
    refine (sCaseOk_any D m _ hD hcap (hA.same hs0)).mono ?_
    rw [HOK.out]
    rintro en w1 ⟨rfl, hs1⟩
    go_wp2
    go_ret2
    exact RetV.empty HV.out (hs0.trans hs1)
  · have HIN := Lib.hid (varsFor_in (m := x) (known := known) hok)
    have HOK := Lib.hid hok
    clear hok
    go_enter Tryz.func27, Tryz.ntmps27
    go_wp2_with fail
    have h1 : BoxAt (w.alloc (.cells #[.slice m.r D.R.length m.rc, .slice m.f D.F.length m.fc, .slice m.p D.P.length m.pc, .int .i64 D.birth, .int .i64 D.joined, .slice m.s D.S.length m.sc, .slice m.e D.E.length m.ec] 38)) (w.heap.size) 38 [.slice m.r D.R.length m.rc, .slice m.f D.F.length m.fc, .slice m.p D.P.length m.pc, .int .i64 D.birth, .int .i64 D.joined, .slice m.s D.S.length m.sc, .slice m.e D.E.length m.ec] := by simpa using (BoxAt.new w 38 [.slice m.r D.R.length m.rc, .slice m.f D.F.length m.fc, .slice m.p D.P.length m.pc, .int .i64 D.birth, .int .i64 D.joined, .slice m.s D.S.length m.sc, .slice m.e D.E.length m.ec])
    have hs0 := (Same.alloc (Same.refl w) (.cells #[.slice m.r D.R.length m.rc, .slice m.f D.F.length m.fc, .slice m.p D.P.length m.pc, .int .i64 D.birth, .int .i64 D.joined, .slice m.s D.S.length m.sc, .slice m.e D.E.length m.ec] 38))
    generalize (w.alloc (.cells #[.slice m.r D.R.length m.rc, .slice m.f D.F.length m.fc, .slice m.p D.P.length m.pc, .int .i64 D.birth, .int .i64 D.joined, .slice m.s D.S.length m.sc, .slice m.e D.E.length m.ec] 38)) = w0 at *
    refine (sCaseOk_any D m _ hD hcap (hA.same hs0)).mono ?_
    rw [HOK.out]
    rintro en w1 ⟨rfl, hs1⟩
    have a0 := (h1.same hs1).cell 0 rfl
    have a1 := (h1.same hs1).cell 1 rfl
    have a2 := (h1.same hs1).cell 2 rfl
    have a3 := (h1.same hs1).cell 3 rfl
    have a4 := (h1.same hs1).cell 4 rfl
    have a5 := (h1.same hs1).cell 5 rfl
    have a6 := (h1.same hs1).cell 6 rfl
    have aL := (h1.same hs1).lt
    have S1 := hs0.trans hs1
    go_wp2_with fail
    clear a0 a1 a2 a3 a4 a5 a6 aL
    refine (l22Vars_any D m x known _ hD (hA.same S1) HOK.out).mono ?_
    rw [← HIN.out]
    rintro en w2 ⟨C, d, rfl, ho, hs2⟩
    go_wp2
    go_ret2
    exact ⟨C, d, rfl, OwnR.rebase ho S1.size, S1.trans hs2⟩

theorem varsIn_len (D : TCase) (m known : Int) : (varsIn D m known).1.length ≤ 8 := by
  unfold varsIn
  split
  · exact Nat.le_refl _
  · exact Nat.zero_le _
theorem entIn_not {D : TCase} {m known : Int} (h : statusAt D.E m ≠ 3) : entIn D m known = 0 := by unfold entIn; rw [if_neg h]
theorem entIn_is {D : TCase} {m known : Int} (h : statusAt D.E m = 3) : entIn D m known = if (varsIn D m known).2 && (figure D.R m D.joined (varsIn D m known).1).2.2 then min (max (figure D.R m D.joined (varsIn D m known).1).1 0) 10000000 else 0 := by unfold entIn; rw [if_pos h]
theorem entAt_bad {D : TCase} {m known : Int} (h : D.ok = false) : entAt D m known = 0 := by unfold entAt; rw [h]; rfl
theorem entAt_in {D : TCase} {m known : Int} (h : D.ok = true) : entAt D m known = entIn D m known := by unfold entAt; rw [h]; rfl

set_option maxRecDepth 10000 in
set_option maxHeartbeats 4000000 in
theorem l22At_any (D : TCase) (m : CMem) (x known : Int) (w : World) (hD : D.Small 1048576) (hcap : D.R.length ≤ m.rc) (hA : CaseAt w D m) (hok : D.ok = true) :
    Calls Tryz.prog 77 #[.agg #[.slice m.r D.R.length m.rc, .slice m.f D.F.length m.fc, .slice m.p D.P.length m.pc, .int .i64 D.birth, .int .i64 D.joined, .slice m.s D.S.length m.sc, .slice m.e D.E.length m.ec], .int .i64 x, .int .i64 known] w fun e w' => e = .returned (.int .i64 (entIn D x known)) ∧ Same w w' := by
  have HOK := Lib.hid hok
  clear hok
  by_cases hst : statusAt D.E x = 3
  case neg =>
    have HV := Lib.hid (entIn_not (known := known) hst)
    have HS := Lib.hid (fun w h => sStatusAt_any m.e m.ec D.E x w hD.E h)
    obtain ⟨st, hs⟩ : ∃ s, s = statusAt D.E x := ⟨_, rfl⟩
    rw [← hs] at hst HS
    have b0 : (st != 3) = true := by simp [hst]
    clear hs hst
    go_enter Tryz.func77, Tryz.ntmps77
    go_wp2_with fail
    have h1 : BoxAt (w.alloc (.cells #[.slice m.r D.R.length m.rc, .slice m.f D.F.length m.fc, .slice m.p D.P.length m.pc, .int .i64 D.birth, .int .i64 D.joined, .slice m.s D.S.length m.sc, .slice m.e D.E.length m.ec] 38)) (w.heap.size) 38 [.slice m.r D.R.length m.rc, .slice m.f D.F.length m.fc, .slice m.p D.P.length m.pc, .int .i64 D.birth, .int .i64 D.joined, .slice m.s D.S.length m.sc, .slice m.e D.E.length m.ec] := by simpa using (BoxAt.new w 38 [.slice m.r D.R.length m.rc, .slice m.f D.F.length m.fc, .slice m.p D.P.length m.pc, .int .i64 D.birth, .int .i64 D.joined, .slice m.s D.S.length m.sc, .slice m.e D.E.length m.ec])
    have hs0 := (Same.alloc (Same.refl w) (.cells #[.slice m.r D.R.length m.rc, .slice m.f D.F.length m.fc, .slice m.p D.P.length m.pc, .int .i64 D.birth, .int .i64 D.joined, .slice m.s D.S.length m.sc, .slice m.e D.E.length m.ec] 38))
    generalize (w.alloc (.cells #[.slice m.r D.R.length m.rc, .slice m.f D.F.length m.fc, .slice m.p D.P.length m.pc, .int .i64 D.birth, .int .i64 D.joined, .slice m.s D.S.length m.sc, .slice m.e D.E.length m.ec] 38)) = w0 at *
    refine (HS.out _ (hA.same hs0).events).mono ?_
    rintro en w1 ⟨rfl, hs1⟩
    go_wp2
    go_ret
    exact ⟨ret_int HV.out.symm, hs0.trans hs1⟩
  have HV := Lib.hid (entIn_is (known := known) hst)
  have HS := Lib.hid (fun w h => sStatusAt_any m.e m.ec D.E x w hD.E h)
  rw [hst] at HS
  clear hst
  have HL := Lib.hid (varsIn_len D x known)
  go_enter Tryz.func77, Tryz.ntmps77
  go_wp2_with fail
  have h1 : BoxAt (w.alloc (.cells #[.slice m.r D.R.length m.rc, .slice m.f D.F.length m.fc, .slice m.p D.P.length m.pc, .int .i64 D.birth, .int .i64 D.joined, .slice m.s D.S.length m.sc, .slice m.e D.E.length m.ec] 38)) (w.heap.size) 38 [.slice m.r D.R.length m.rc, .slice m.f D.F.length m.fc, .slice m.p D.P.length m.pc, .int .i64 D.birth, .int .i64 D.joined, .slice m.s D.S.length m.sc, .slice m.e D.E.length m.ec] := by simpa using (BoxAt.new w 38 [.slice m.r D.R.length m.rc, .slice m.f D.F.length m.fc, .slice m.p D.P.length m.pc, .int .i64 D.birth, .int .i64 D.joined, .slice m.s D.S.length m.sc, .slice m.e D.E.length m.ec])
  have hs0 := (Same.alloc (Same.refl w) (.cells #[.slice m.r D.R.length m.rc, .slice m.f D.F.length m.fc, .slice m.p D.P.length m.pc, .int .i64 D.birth, .int .i64 D.joined, .slice m.s D.S.length m.sc, .slice m.e D.E.length m.ec] 38))
  generalize (w.alloc (.cells #[.slice m.r D.R.length m.rc, .slice m.f D.F.length m.fc, .slice m.p D.P.length m.pc, .int .i64 D.birth, .int .i64 D.joined, .slice m.s D.S.length m.sc, .slice m.e D.E.length m.ec] 38)) = w0 at *
  refine (HS.out _ (hA.same hs0).events).mono ?_
  rintro en w1 ⟨rfl, hs1⟩
  replace h1 := h1.same hs1
  have S1 := hs0.trans hs1
  clear hs0 hs1 HS
  have a0 := h1.cell 0 rfl
  have a1 := h1.cell 1 rfl
  have a2 := h1.cell 2 rfl
  have a3 := h1.cell 3 rfl
  have a4 := h1.cell 4 rfl
  have a5 := h1.cell 5 rfl
  have a6 := h1.cell 6 rfl
  have aL := h1.lt
  go_wp2_with fail
  clear a0 a1 a2 a3 a4 a5 a6 aL
  refine (l22Vars_any D m x known _ hD (hA.same S1) HOK.out).mono ?_
  unfold RetV
  obtain ⟨⟨V, vb⟩, hvv⟩ : ∃ r, r = varsIn D x known := ⟨_, rfl⟩
  rw [← hvv] at HL HV ⊢
  clear hvv
  dsimp only at HL HV ⊢
  rintro en w2 ⟨C, d, rfl, ho, hs2⟩
  replace h1 := h1.same hs2
  have S2 := S1.trans hs2
  have hrec := OwnR.recs cFrac_len ho
  clear hs2 S1 ho
  cases vb
  · have HW := Lib.hid (show entIn D x known = 0 by rw [HV.out]; rfl)
    go_wp2
    go_ret
    exact ⟨ret_int HW.out.symm, S2⟩
  have a0 := h1.cell 0 rfl
  have a4 := h1.cell 4 rfl
  have aL := h1.lt
  go_wp2_with fail
  clear a0 a4 aL
  refine (sFigure_any m.r m.rc D.R x D.joined C d V _ hD.R hcap hD.N (by have := HL.out; omega) (hA.same S2).rules hrec).mono ?_
  obtain ⟨⟨n, at_, fb⟩, hfg⟩ : ∃ r, r = figure D.R x D.joined V := ⟨_, rfl⟩
  rw [← hfg] at HV ⊢
  clear hfg
  dsimp only at HV ⊢
  rintro en w3 ⟨rfl, hs3⟩
  cases fb
  · have HW := Lib.hid (show entIn D x known = 0 by rw [HV.out]; rfl)
    go_wp2
    go_ret
    exact ⟨ret_int HW.out.symm, S2.trans hs3⟩
  · have HW := Lib.hid (show entIn D x known = min (max n 0) 10000000 by rw [HV.out]; rfl)
    go_wp2
    all_goals go_ret
    all_goals exact ⟨ret_int (by rw [HW.out]; omega), S2.trans hs3⟩

set_option maxHeartbeats 2000000 in
theorem sEntAt_any (D : TCase) (m : CMem) (x known : Int) (w : World) (hD : D.Small 1048576) (hcap : D.R.length ≤ m.rc) (hA : CaseAt w D m) :
    Calls Tryz.prog 34 #[.agg #[.slice m.r D.R.length m.rc, .slice m.f D.F.length m.fc, .slice m.p D.P.length m.pc, .int .i64 D.birth, .int .i64 D.joined, .slice m.s D.S.length m.sc, .slice m.e D.E.length m.ec], .int .i64 x, .int .i64 known] w fun e w' => e = .returned (.int .i64 (entAt D x known)) ∧ Same w w' := by
  cases hok : D.ok
  · have HV := Lib.hid (entAt_bad (m := x) (known := known) hok)
    have HOK := Lib.hid hok
    clear hok
    go_enter Tryz.func34, Tryz.ntmps34
    go_wp2_with fail
    have h1 : BoxAt (w.alloc (.cells #[.slice m.r D.R.length m.rc, .slice m.f D.F.length m.fc, .slice m.p D.P.length m.pc, .int .i64 D.birth, .int .i64 D.joined, .slice m.s D.S.length m.sc, .slice m.e D.E.length m.ec] 38)) (w.heap.size) 38 [.slice m.r D.R.length m.rc, .slice m.f D.F.length m.fc, .slice m.p D.P.length m.pc, .int .i64 D.birth, .int .i64 D.joined, .slice m.s D.S.length m.sc, .slice m.e D.E.length m.ec] := by simpa using (BoxAt.new w 38 [.slice m.r D.R.length m.rc, .slice m.f D.F.length m.fc, .slice m.p D.P.length m.pc, .int .i64 D.birth, .int .i64 D.joined, .slice m.s D.S.length m.sc, .slice m.e D.E.length m.ec])
    have hs0 := (Same.alloc (Same.refl w) (.cells #[.slice m.r D.R.length m.rc, .slice m.f D.F.length m.fc, .slice m.p D.P.length m.pc, .int .i64 D.birth, .int .i64 D.joined, .slice m.s D.S.length m.sc, .slice m.e D.E.length m.ec] 38))
    generalize (w.alloc (.cells #[.slice m.r D.R.length m.rc, .slice m.f D.F.length m.fc, .slice m.p D.P.length m.pc, .int .i64 D.birth, .int .i64 D.joined, .slice m.s D.S.length m.sc, .slice m.e D.E.length m.ec] 38)) = w0 at *
    refine (sCaseOk_any D m _ hD hcap (hA.same hs0)).mono ?_
    rw [HOK.out]
    rintro en w1 ⟨rfl, hs1⟩
    go_wp2
    go_ret
    exact ⟨ret_int HV.out.symm, hs0.trans hs1⟩
  · have HV := Lib.hid (entAt_in (m := x) (known := known) hok)
    have HOK := Lib.hid hok
    clear hok
    go_enter Tryz.func34, Tryz.ntmps34
    go_wp2_with fail
    have h1 : BoxAt (w.alloc (.cells #[.slice m.r D.R.length m.rc, .slice m.f D.F.length m.fc, .slice m.p D.P.length m.pc, .int .i64 D.birth, .int .i64 D.joined, .slice m.s D.S.length m.sc, .slice m.e D.E.length m.ec] 38)) (w.heap.size) 38 [.slice m.r D.R.length m.rc, .slice m.f D.F.length m.fc, .slice m.p D.P.length m.pc, .int .i64 D.birth, .int .i64 D.joined, .slice m.s D.S.length m.sc, .slice m.e D.E.length m.ec] := by simpa using (BoxAt.new w 38 [.slice m.r D.R.length m.rc, .slice m.f D.F.length m.fc, .slice m.p D.P.length m.pc, .int .i64 D.birth, .int .i64 D.joined, .slice m.s D.S.length m.sc, .slice m.e D.E.length m.ec])
    have hs0 := (Same.alloc (Same.refl w) (.cells #[.slice m.r D.R.length m.rc, .slice m.f D.F.length m.fc, .slice m.p D.P.length m.pc, .int .i64 D.birth, .int .i64 D.joined, .slice m.s D.S.length m.sc, .slice m.e D.E.length m.ec] 38))
    generalize (w.alloc (.cells #[.slice m.r D.R.length m.rc, .slice m.f D.F.length m.fc, .slice m.p D.P.length m.pc, .int .i64 D.birth, .int .i64 D.joined, .slice m.s D.S.length m.sc, .slice m.e D.E.length m.ec] 38)) = w0 at *
    refine (sCaseOk_any D m _ hD hcap (hA.same hs0)).mono ?_
    rw [HOK.out]
    rintro en w1 ⟨rfl, hs1⟩
    have a0 := (h1.same hs1).cell 0 rfl
    have a1 := (h1.same hs1).cell 1 rfl
    have a2 := (h1.same hs1).cell 2 rfl
    have a3 := (h1.same hs1).cell 3 rfl
    have a4 := (h1.same hs1).cell 4 rfl
    have a5 := (h1.same hs1).cell 5 rfl
    have a6 := (h1.same hs1).cell 6 rfl
    have aL := (h1.same hs1).lt
    have S1 := hs0.trans hs1
    go_wp2_with fail
    clear a0 a1 a2 a3 a4 a5 a6 aL
    refine (l22At_any D m x known _ hD hcap (hA.same S1) HOK.out).mono ?_
    rw [← HV.out]
    rintro en w2 ⟨rfl, hs2⟩
    go_wp2
    go_ret
    exact ⟨rfl, S1.trans hs2⟩

set_option maxRecDepth 10000 in
set_option maxHeartbeats 4000000 in
theorem iEntAt_any (D : TCase) (m : CMem) (x known : Int) (w : World) (hD : D.Small 1048576) (hcap : D.R.length ≤ m.rc) (hA : CaseAt w D m) :
    Calls Tryz.prog 13 #[.agg #[.slice m.r D.R.length m.rc, .slice m.f D.F.length m.fc, .slice m.p D.P.length m.pc, .int .i64 D.birth, .int .i64 D.joined, .slice m.s D.S.length m.sc, .slice m.e D.E.length m.ec], .int .i64 x, .int .i64 known] w fun e w' => e = .returned (.int .i64 (entAt D x known)) ∧ Same w w' := by
  cases hok : D.ok
  · have HV := Lib.hid (entAt_bad (m := x) (known := known) hok)
    have HOK := Lib.hid hok
    clear hok
    go_enter Tryz.func13, Tryz.ntmps13
    go_wp2_with fail
    have h1 : BoxAt (w.alloc (.cells #[.slice m.r D.R.length m.rc, .slice m.f D.F.length m.fc, .slice m.p D.P.length m.pc, .int .i64 D.birth, .int .i64 D.joined, .slice m.s D.S.length m.sc, .slice m.e D.E.length m.ec] 38)) (w.heap.size) 38 [.slice m.r D.R.length m.rc, .slice m.f D.F.length m.fc, .slice m.p D.P.length m.pc, .int .i64 D.birth, .int .i64 D.joined, .slice m.s D.S.length m.sc, .slice m.e D.E.length m.ec] := by simpa using (BoxAt.new w 38 [.slice m.r D.R.length m.rc, .slice m.f D.F.length m.fc, .slice m.p D.P.length m.pc, .int .i64 D.birth, .int .i64 D.joined, .slice m.s D.S.length m.sc, .slice m.e D.E.length m.ec])
    have hs0 := (Same.alloc (Same.refl w) (.cells #[.slice m.r D.R.length m.rc, .slice m.f D.F.length m.fc, .slice m.p D.P.length m.pc, .int .i64 D.birth, .int .i64 D.joined, .slice m.s D.S.length m.sc, .slice m.e D.E.length m.ec] 38))
    generalize (w.alloc (.cells #[.slice m.r D.R.length m.rc, .slice m.f D.F.length m.fc, .slice m.p D.P.length m.pc, .int .i64 D.birth, .int .i64 D.joined, .slice m.s D.S.length m.sc, .slice m.e D.E.length m.ec] 38)) = w0 at *
    refine (iCaseOk_any D m _ hD hcap (hA.same hs0)).mono ?_
    rw [HOK.out]
    rintro en w1 ⟨rfl, hs1⟩
    go_wp2
    go_ret
    exact ⟨ret_int HV.out.symm, hs0.trans hs1⟩
  have HV0 := Lib.hid (entAt_in (m := x) (known := known) hok)
  have HIN := Lib.hid (varsFor_in (m := x) (known := known) hok)
  have HOK := Lib.hid hok
  clear hok
  by_cases hst : statusAt D.E x = 3
  case neg =>
    have HV := Lib.hid (show entAt D x known = 0 by rw [HV0.out]; exact entIn_not (known := known) hst)
    have HS := Lib.hid (fun w h => iStatusAt_any m.e m.ec D.E x w hD.E h)
    obtain ⟨st, hs⟩ : ∃ s, s = statusAt D.E x := ⟨_, rfl⟩
    rw [← hs] at hst HS
    have b0 : (st != 3) = true := by simp [hst]
    clear hs hst
    go_enter Tryz.func13, Tryz.ntmps13
    go_wp2_with fail
    have h1 : BoxAt (w.alloc (.cells #[.slice m.r D.R.length m.rc, .slice m.f D.F.length m.fc, .slice m.p D.P.length m.pc, .int .i64 D.birth, .int .i64 D.joined, .slice m.s D.S.length m.sc, .slice m.e D.E.length m.ec] 38)) (w.heap.size) 38 [.slice m.r D.R.length m.rc, .slice m.f D.F.length m.fc, .slice m.p D.P.length m.pc, .int .i64 D.birth, .int .i64 D.joined, .slice m.s D.S.length m.sc, .slice m.e D.E.length m.ec] := by simpa using (BoxAt.new w 38 [.slice m.r D.R.length m.rc, .slice m.f D.F.length m.fc, .slice m.p D.P.length m.pc, .int .i64 D.birth, .int .i64 D.joined, .slice m.s D.S.length m.sc, .slice m.e D.E.length m.ec])
    have hs0 := (Same.alloc (Same.refl w) (.cells #[.slice m.r D.R.length m.rc, .slice m.f D.F.length m.fc, .slice m.p D.P.length m.pc, .int .i64 D.birth, .int .i64 D.joined, .slice m.s D.S.length m.sc, .slice m.e D.E.length m.ec] 38))
    generalize (w.alloc (.cells #[.slice m.r D.R.length m.rc, .slice m.f D.F.length m.fc, .slice m.p D.P.length m.pc, .int .i64 D.birth, .int .i64 D.joined, .slice m.s D.S.length m.sc, .slice m.e D.E.length m.ec] 38)) = w0 at *
    refine (iCaseOk_any D m _ hD hcap (hA.same hs0)).mono ?_
    rw [HOK.out]
    rintro en w1 ⟨rfl, hs1⟩
    have a6 := (h1.same hs1).cell 6 rfl
    have aL := (h1.same hs1).lt
    go_wp2_with fail
    clear a6 aL
    refine (HS.out _ ((hA.same hs0).same hs1).events).mono ?_
    rintro en w2 ⟨rfl, hs2⟩
    go_wp2
    go_ret
    exact ⟨ret_int HV.out.symm, (hs0.trans hs1).trans hs2⟩
  have HV := Lib.hid (show entAt D x known = _ from HV0.out.trans (entIn_is (known := known) hst))
  have HS := Lib.hid (fun w h => iStatusAt_any m.e m.ec D.E x w hD.E h)
  rw [hst] at HS
  clear hst
  have HL := Lib.hid (varsIn_len D x known)
  go_enter Tryz.func13, Tryz.ntmps13
  go_wp2_with fail
  have h1 : BoxAt (w.alloc (.cells #[.slice m.r D.R.length m.rc, .slice m.f D.F.length m.fc, .slice m.p D.P.length m.pc, .int .i64 D.birth, .int .i64 D.joined, .slice m.s D.S.length m.sc, .slice m.e D.E.length m.ec] 38)) (w.heap.size) 38 [.slice m.r D.R.length m.rc, .slice m.f D.F.length m.fc, .slice m.p D.P.length m.pc, .int .i64 D.birth, .int .i64 D.joined, .slice m.s D.S.length m.sc, .slice m.e D.E.length m.ec] := by simpa using (BoxAt.new w 38 [.slice m.r D.R.length m.rc, .slice m.f D.F.length m.fc, .slice m.p D.P.length m.pc, .int .i64 D.birth, .int .i64 D.joined, .slice m.s D.S.length m.sc, .slice m.e D.E.length m.ec])
  have hs0 := (Same.alloc (Same.refl w) (.cells #[.slice m.r D.R.length m.rc, .slice m.f D.F.length m.fc, .slice m.p D.P.length m.pc, .int .i64 D.birth, .int .i64 D.joined, .slice m.s D.S.length m.sc, .slice m.e D.E.length m.ec] 38))
  generalize (w.alloc (.cells #[.slice m.r D.R.length m.rc, .slice m.f D.F.length m.fc, .slice m.p D.P.length m.pc, .int .i64 D.birth, .int .i64 D.joined, .slice m.s D.S.length m.sc, .slice m.e D.E.length m.ec] 38)) = w0 at *
  refine (iCaseOk_any D m _ hD hcap (hA.same hs0)).mono ?_
  rw [HOK.out]
  rintro en w1 ⟨rfl, hs1⟩
  replace h1 := h1.same hs1
  have S1 := hs0.trans hs1
  clear hs0 hs1
  have a6 := h1.cell 6 rfl
  have aL := h1.lt
  go_wp2_with fail
  clear a6 aL
  refine (HS.out _ (hA.same S1).events).mono ?_
  rintro en w2 ⟨rfl, hs2⟩
  replace h1 := h1.same hs2
  have S2 := S1.trans hs2
  clear hs2 S1 HS
  have a0 := h1.cell 0 rfl
  have a1 := h1.cell 1 rfl
  have a2 := h1.cell 2 rfl
  have a3 := h1.cell 3 rfl
  have a4 := h1.cell 4 rfl
  have a5 := h1.cell 5 rfl
  have a6 := h1.cell 6 rfl
  have aL := h1.lt
  go_wp2_with fail
  clear a0 a1 a2 a3 a4 a5 a6 aL
  refine (iVarsFor_any D m x known _ hD hcap (hA.same S2)).mono ?_
  rw [HIN.out]
  unfold RetV
  obtain ⟨⟨V, vb⟩, hvv⟩ : ∃ r, r = varsIn D x known := ⟨_, rfl⟩
  rw [← hvv] at HL HV ⊢
  clear hvv
  dsimp only at HL HV ⊢
  rintro en w3 ⟨C, d, rfl, ho, hs3⟩
  replace h1 := h1.same hs3
  have S3 := S2.trans hs3
  have hrec := OwnR.recs cFrac_len ho
  clear hs3 S2 ho
  have a0 := h1.cell 0 rfl
  have a4 := h1.cell 4 rfl
  have aL := h1.lt
  go_wp2_with fail
  clear a0 a4 aL
  refine (iFigure_any m.r m.rc D.R x D.joined C d V _ hD.R hcap hD.N (by have := HL.out; omega) (hA.same S3).rules hrec).mono ?_
  obtain ⟨⟨n, at_, fb⟩, hfg⟩ : ∃ r, r = figure D.R x D.joined V := ⟨_, rfl⟩
  rw [← hfg] at HV ⊢
  clear hfg
  dsimp only at HV ⊢
  rintro en w4 ⟨rfl, hs4⟩
  cases vb
  · have HW := Lib.hid (show entAt D x known = 0 by rw [HV.out]; rfl)
    go_wp2
    go_ret
    exact ⟨ret_int HW.out.symm, S3.trans hs4⟩
  cases fb
  · have HW := Lib.hid (show entAt D x known = 0 by rw [HV.out]; rfl)
    go_wp2
    go_ret
    exact ⟨ret_int HW.out.symm, S3.trans hs4⟩
  · have HW := Lib.hid (show entAt D x known = min (max n 0) 10000000 by rw [HV.out]; rfl)
    go_wp2
    all_goals go_ret
    all_goals exact ⟨ret_int (by rw [HW.out]; omega), S3.trans hs4⟩
end Go.Proofs.YtjfmknhnplefnaaGreat
