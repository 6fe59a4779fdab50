/-
  The variables of a case (the specification's side).
-/
import Derived.Test.YtjfmknhnplefnaaGreatZVarsI
import Derived.Test.YtjfmknhnplefnaaGreatZPayS
import Derived.Test.YtjfmknhnplefnaaGreatZEval
import Derived.Test.YtjfmknhnplefnaaGreatZFracS
import Derived.Deep.RegionHeld3
namespace Go.Proofs.YtjfmknhnplefnaaGreat
open Go.RowKit
set_option linter.unusedVariables false
set_option linter.unusedSimpArgs false

theorem RetV.empty {w v : World} {R : List TFrac × Bool} (h : R = ([], false)) (hs : Same w v) : RetV w R (.returned (.tuple #[.slice (some ⟨v.heap.size, 0, none⟩) 0 0, .bool false])) (v.alloc (.cells #[] 101)) := by
  subst h
  exact ⟨some ⟨v.heap.size, 0, none⟩, 0, rfl, OwnR.rebase (OwnR.empty 101 2 cFrac v (Nat.le_refl _)) hs.size, hs.alloc _⟩
theorem fracNew_low {n : Int} (h : 0 ≤ n ∧ n ≤ 10800000) : fracNew n 100 = lowest n 100 := by
  have h1 : inB n (-1000000000000) 1000000000000 = true := inB_iff.2 (by omega)
  unfold fracNew
  rw [h1]
  rfl

set_option maxRecDepth 100000 in
set_option maxHeartbeats 8000000 in
theorem l22Vars_any (D : TCase) (m : CMem) (x known : Int) (w : World) (hD : D.Small 1048576) (hA : CaseAt w D m) (hok : D.ok = true) :
    Calls Tryz.prog 83 #[.agg #[.slice m.r D.R.length m.rc, .slice m.f D.F.length m.fc, .slice m.p D.P.length m.pc, .int .i64 D.birth, .int .i64 D.joined, .slice m.s D.S.length m.sc, .slice m.e D.E.length m.ec], .int .i64 x, .int .i64 known] w (RetV w (varsIn D x known)) := by
  have HSP := Lib.hid (TCase.ok_spells hok)
  clear hok
  cases m1 : inB x 0 3599
  · have HV := Lib.hid (show varsIn D x known = ([], false) from varsIn_far (by simp [varsRange, m1]))
    go_enter Tryz.func83, Tryz.ntmps83
    go_wp2_with fail
    have h1 : BoxAt (w.alloc (.cells #[.slice m.r D.R.length m.rc, .slice m.f D.F.length m.fc, .slice m.p D.P.length m.pc, .int .i64 D.birth, .int .i64 D.joined, .slice m.s D.S.length m.sc, .slice m.e D.E.length m.ec] 38)) (w.heap.size) 38 [.slice m.r D.R.length m.rc, .slice m.f D.F.length m.fc, .slice m.p D.P.length m.pc, .int .i64 D.birth, .int .i64 D.joined, .slice m.s D.S.length m.sc, .slice m.e D.E.length m.ec] := by simpa using (BoxAt.new w 38 [.slice m.r D.R.length m.rc, .slice m.f D.F.length m.fc, .slice m.p D.P.length m.pc, .int .i64 D.birth, .int .i64 D.joined, .slice m.s D.S.length m.sc, .slice m.e D.E.length m.ec])
    have S1 := (Same.alloc (Same.refl w) (.cells #[.slice m.r D.R.length m.rc, .slice m.f D.F.length m.fc, .slice m.p D.P.length m.pc, .int .i64 D.birth, .int .i64 D.joined, .slice m.s D.S.length m.sc, .slice m.e D.E.length m.ec] 38))
    generalize (w.alloc (.cells #[.slice m.r D.R.length m.rc, .slice m.f D.F.length m.fc, .slice m.p D.P.length m.pc, .int .i64 D.birth, .int .i64 D.joined, .slice m.s D.S.length m.sc, .slice m.e D.E.length m.ec] 38)) = w1 at *
    refine (sMonthOk_any x _).mono ?_
    rw [m1]
    rintro en w2 ⟨rfl, rfl⟩
    go_wp2
    go_ret2
    exact RetV.empty HV.out S1
  cases m2 : inB known 0 3599
  · have HV := Lib.hid (show varsIn D x known = ([], false) from varsIn_far (by simp [varsRange, m2]))
    go_enter Tryz.func83, Tryz.ntmps83
    go_wp2_with fail
    have h1 : BoxAt (w.alloc (.cells #[.slice m.r D.R.length m.rc, .slice m.f D.F.length m.fc, .slice m.p D.P.length m.pc, .int .i64 D.birth, .int .i64 D.joined, .slice m.s D.S.length m.sc, .slice m.e D.E.length m.ec] 38)) (w.heap.size) 38 [.slice m.r D.R.length m.rc, .slice m.f D.F.length m.fc, .slice m.p D.P.length m.pc, .int .i64 D.birth, .int .i64 D.joined, .slice m.s D.S.length m.sc, .slice m.e D.E.length m.ec] := by simpa using (BoxAt.new w 38 [.slice m.r D.R.length m.rc, .slice m.f D.F.length m.fc, .slice m.p D.P.length m.pc, .int .i64 D.birth, .int .i64 D.joined, .slice m.s D.S.length m.sc, .slice m.e D.E.length m.ec])
    have S1 := (Same.alloc (Same.refl w) (.cells #[.slice m.r D.R.length m.rc, .slice m.f D.F.length m.fc, .slice m.p D.P.length m.pc, .int .i64 D.birth, .int .i64 D.joined, .slice m.s D.S.length m.sc, .slice m.e D.E.length m.ec] 38))
    generalize (w.alloc (.cells #[.slice m.r D.R.length m.rc, .slice m.f D.F.length m.fc, .slice m.p D.P.length m.pc, .int .i64 D.birth, .int .i64 D.joined, .slice m.s D.S.length m.sc, .slice m.e D.E.length m.ec] 38)) = w1 at *
    refine (sMonthOk_any x _).mono ?_
    rw [m1]
    rintro en w2 ⟨rfl, rfl⟩
    go_wp2_with fail
    refine (sMonthOk_any known _).mono ?_
    rw [m2]
    rintro en w2 ⟨rfl, rfl⟩
    go_wp2
    go_ret2
    exact RetV.empty HV.out S1
  have hx := inB_iff.1 m1
  have hkn := inB_iff.1 m2
  have M1 := Lib.hid m1
  have M2 := Lib.hid m2
  have hxe : inB x 0 3600 = true := inB_iff.2 (by omega)
  have HXE := Lib.hid hxe
  clear hxe
  by_cases m3 : D.joined ≤ x
  case neg =>
    have HV := Lib.hid (show varsIn D x known = ([], false) from varsIn_far (by simp [varsRange, m3]))
    clear m1 m2
    go_enter Tryz.func83, Tryz.ntmps83
    go_wp2_with fail
    have h1 : BoxAt (w.alloc (.cells #[.slice m.r D.R.length m.rc, .slice m.f D.F.length m.fc, .slice m.p D.P.length m.pc, .int .i64 D.birth, .int .i64 D.joined, .slice m.s D.S.length m.sc, .slice m.e D.E.length m.ec] 38)) (w.heap.size) 38 [.slice m.r D.R.length m.rc, .slice m.f D.F.length m.fc, .slice m.p D.P.length m.pc, .int .i64 D.birth, .int .i64 D.joined, .slice m.s D.S.length m.sc, .slice m.e D.E.length m.ec] := by simpa using (BoxAt.new w 38 [.slice m.r D.R.length m.rc, .slice m.f D.F.length m.fc, .slice m.p D.P.length m.pc, .int .i64 D.birth, .int .i64 D.joined, .slice m.s D.S.length m.sc, .slice m.e D.E.length m.ec])
    have S1 := (Same.alloc (Same.refl w) (.cells #[.slice m.r D.R.length m.rc, .slice m.f D.F.length m.fc, .slice m.p D.P.length m.pc, .int .i64 D.birth, .int .i64 D.joined, .slice m.s D.S.length m.sc, .slice m.e D.E.length m.ec] 38))
    generalize (w.alloc (.cells #[.slice m.r D.R.length m.rc, .slice m.f D.F.length m.fc, .slice m.p D.P.length m.pc, .int .i64 D.birth, .int .i64 D.joined, .slice m.s D.S.length m.sc, .slice m.e D.E.length m.ec] 38)) = w1 at *
    refine (sMonthOk_any x _).mono ?_
    rw [M1.out]
    rintro en w2 ⟨rfl, rfl⟩
    go_wp2_with fail
    refine (sMonthOk_any known _).mono ?_
    rw [M2.out]
    rintro en w2 ⟨rfl, rfl⟩
    have b1 := h1.cell 4 rfl
    have bL := h1.lt
    go_wp2
    go_ret2
    exact RetV.empty HV.out S1
  have HRG := Lib.hid (show varsRange D x known = true by simp [varsRange, m1, m2, m3])
  clear m1 m2
  go_enter Tryz.func83, Tryz.ntmps83
  go_wp2_with fail
  have h1 : BoxAt (w.alloc (.cells #[.slice m.r D.R.length m.rc, .slice m.f D.F.length m.fc, .slice m.p D.P.length m.pc, .int .i64 D.birth, .int .i64 D.joined, .slice m.s D.S.length m.sc, .slice m.e D.E.length m.ec] 38)) (w.heap.size) 38 [.slice m.r D.R.length m.rc, .slice m.f D.F.length m.fc, .slice m.p D.P.length m.pc, .int .i64 D.birth, .int .i64 D.joined, .slice m.s D.S.length m.sc, .slice m.e D.E.length m.ec] := by simpa using (BoxAt.new w 38 [.slice m.r D.R.length m.rc, .slice m.f D.F.length m.fc, .slice m.p D.P.length m.pc, .int .i64 D.birth, .int .i64 D.joined, .slice m.s D.S.length m.sc, .slice m.e D.E.length m.ec])
  have S1 := (Same.alloc (Same.refl w) (.cells #[.slice m.r D.R.length m.rc, .slice m.f D.F.length m.fc, .slice m.p D.P.length m.pc, .int .i64 D.birth, .int .i64 D.joined, .slice m.s D.S.length m.sc, .slice m.e D.E.length m.ec] 38))
  generalize (w.alloc (.cells #[.slice m.r D.R.length m.rc, .slice m.f D.F.length m.fc, .slice m.p D.P.length m.pc, .int .i64 D.birth, .int .i64 D.joined, .slice m.s D.S.length m.sc, .slice m.e D.E.length m.ec] 38)) = w1 at *
  refine (sMonthOk_any x _).mono ?_
  rw [M1.out]
  rintro en w2 ⟨rfl, rfl⟩
  go_wp2_with fail
  refine (sMonthOk_any known _).mono ?_
  rw [M2.out]
  rintro en w2 ⟨rfl, rfl⟩
  have b4 := h1.cell 4 rfl
  have b5 := h1.cell 5 rfl
  have bL := h1.lt
  go_wp2_with fail
  clear b4 b5 bL
  refine (sServiceIn_any m.s m.sc D.S 0 x _ hD.S (hA.same S1).spells).mono ?_
  have hsv := service_range 0 x HSP.out.1 HSP.out.2
  have HSE : Hid (service D x = lowest (serviceIn D.S 0 x) 100) := rfl
  obtain ⟨sv, hsv2⟩ : ∃ s, s = serviceIn D.S 0 x := ⟨_, rfl⟩
  rw [← hsv2] at hsv HSE ⊢
  clear hsv2
  rintro en w2 ⟨rfl, hs2⟩
  go_wp2_with fail
  refine (sFracNew_any sv 100 _).mono ?_
  rw [fracNew_low hsv, ← HSE.out]
  have HLO := Lib.hid (lowest_ok_eq sv 100)
  rw [← HSE.out] at HLO
  obtain ⟨sr, hsr2⟩ : ∃ s, s = service D x := ⟨_, rfl⟩
  rw [← hsr2] at HLO ⊢
  have HSR := Lib.hid hsr2
  clear hsr2
  obtain ⟨s1, s2, sb⟩ := sr
  dsimp only at HLO ⊢
  rintro en w3 ⟨rfl, hs3⟩
  have T3 := hs2.trans hs3
  replace h1 := h1.same T3
  have S3 := S1.trans T3
  clear hs2 hs3 T3 S1
  have h5 := BoxAt.new w3 101 [.int .i64 s1, .int .i64 s2]
  have hsa := (Same.refl w3).alloc (.cells #[.int .i64 s1, .int .i64 s2] 101)
  replace h1 := h1.same hsa
  have S4 := S3.trans hsa
  have b1 := h1.cell 1 rfl
  have bL := h1.lt
  go_wp2_with fail
  clear b1 bL
  generalize w3.alloc (.cells #[.int .i64 s1, .int .i64 s2] 101) = w4 at *
  clear hsa S3
  refine (sFinalPay_any m.f m.fc D.F x known _ hD.F (hA.same S4).facts).mono ?_
  obtain ⟨pay, hpay⟩ : ∃ p, p = (finalPay D.F x known).1 := ⟨_, rfl⟩
  rw [← hpay]
  have HPAY := Lib.hid hpay
  clear hpay
  rintro en w5 ⟨rfl, hs5⟩
  replace h1 := h1.same hs5
  replace h5 := h5.same hs5
  have S5 := S4.trans hs5
  clear hs5 S4
  have b2 := h1.cell 2 rfl
  have b4 := h1.cell 4 rfl
  have bL := h1.lt
  go_wp2_with fail
  clear b2 b4 bL
  refine (sIndexRatio_any m.p m.pc D.P D.joined x known _ hD.P (hA.same S5).points).mono ?_
  have HRT : Hid (ratioOf D.P D.joined x known = if (indexRatio D.P D.joined x known).2.2 then ((indexRatio D.P D.joined x known).1, (indexRatio D.P D.joined x known).2.1) else (1, 1)) := rfl
  obtain ⟨r, hr⟩ : ∃ r, r = indexRatio D.P D.joined x known := ⟨_, rfl⟩
  rw [← hr] at HRT ⊢
  clear hr
  obtain ⟨q1, q2, qb⟩ := r
  dsimp only at HRT ⊢
  rintro en w6 ⟨rfl, hs6⟩
  replace h1 := h1.same hs6
  replace h5 := h5.same hs6
  have S6 := S5.trans hs6
  clear hs6 S5
  have h4 := BoxAt.new w6 101 [.int .i64 q1, .int .i64 q2]
  have hsa := (Same.refl w6).alloc (.cells #[.int .i64 q1, .int .i64 q2] 101)
  obtain ⟨⟨r1, r2⟩, hrr⟩ : ∃ r, r = ratioOf D.P D.joined x known := ⟨_, rfl⟩
  have HRR := Lib.hid hrr
  rw [← hrr] at HRT
  clear hrr
  go_upto_if 63 with (fail)
  generalize w6.alloc (.cells #[.int .i64 q1, .int .i64 q2] 101) = w7 at *
  go_cut [] from 64 to 64 (fun wx => BoxAt wx w6.heap.size 101 [.int .i64 r1, .int .i64 r2] ∧ Same w6 wx)
  case first =>
    have x0 := h4.cell 0 rfl
    have x1 := h4.cell 1 rfl
    have xf0 := h4.frozen 0
    have xf1 := h4.frozen 1
    have xL := h4.lt
    cases qb
    · have hrq : (r1, r2) = ((1, 1) : TFrac) := HRT.out
      injection hrq with hq1 hq2
      have h5 := (h4.set 0 (.int .i64 1)).set 1 (.int .i64 1)
      have hs5 := (hsa.setCell (p := ⟨w6.heap.size, 0, none⟩) (Nat.le_refl _) (.int .i64 1)).setCell (p := ⟨w6.heap.size, 1, none⟩) (Nat.le_refl _) (.int .i64 1)
      subst hq1 hq2
      go_wp2_with fail
      go_meet
      exact ⟨h5, hs5⟩
    · have hrq : (r1, r2) = ((q1, q2) : TFrac) := HRT.out
      injection hrq with hq1 hq2
      subst hq1 hq2
      go_wp2_with fail
      go_meet
      exact ⟨h4, hsa⟩
  case rest =>
  obtain ⟨h4, hs8⟩ := hcut
  generalize wc = w8 at *
  replace h1 := h1.same hs8
  replace h5 := h5.same hs8
  have S8 := S6.trans hs8
  clear hs8 S6 hsa
  have b6 := h1.cell 6 rfl
  have bL := h1.lt
  go_wp2_with fail
  clear b6 bL
  refine (sMonthOfKind_any m.e m.ec D.E 3 _ hD.E (hA.same S8).events).mono ?_
  have HSN : Hid (sinceOf D.E x = if decide (0 ≤ monthOfKind D.E 3) && decide (monthOfKind D.E 3 ≤ x) then x - monthOfKind D.E 3 else 0) := rfl
  obtain ⟨mk, hmk⟩ : ∃ k, k = monthOfKind D.E 3 := ⟨_, rfl⟩
  rw [← hmk] at HSN ⊢
  clear hmk
  obtain ⟨since, hsince⟩ : ∃ s, s = sinceOf D.E x := ⟨_, rfl⟩
  rw [← hsince] at HSN
  have HSI := Lib.hid hsince
  clear hsince
  have hsr : 0 ≤ since ∧ since ≤ 3599 := by rw [HSN.out]; split <;> (try simp_all) <;> omega
  rintro en w9 ⟨rfl, hs9⟩
  replace h1 := h1.same hs9
  replace h5 := h5.same hs9
  replace h4 := h4.same hs9
  have S9 := S8.trans hs9
  clear hs9 S8
  go_upto_region 10 with (fail)
  go_cut [75] from 69 to 75 (fun t75 wx => t75 = .bool (decide (0 ≤ mk) && decide (mk ≤ x)) ∧ w9 = wx)
  case first =>
    by_cases e1 : 0 ≤ mk
    · by_cases e2 : mk ≤ x
      · go_wp2_with fail
        go_meet
        exact ⟨by simp [e1, e2], rfl⟩
      · go_wp2_with fail
        go_meet
        exact ⟨by simp [e1, e2], rfl⟩
    · go_wp2_with fail
      go_meet
      exact ⟨by first | (simp [e1]; done) | (simp; omega), rfl⟩
  case rest =>
  obtain ⟨rfl, rfl⟩ := hcut
  have HW := Lib.hid (fun h : (decide (0 ≤ mk) && decide (mk ≤ x)) = true => show 0 ≤ mk ∧ mk ≤ x by simpa using h)
  obtain ⟨bb, hbb⟩ : ∃ b, b = (decide (0 ≤ mk) && decide (mk ≤ x)) := ⟨_, rfl⟩
  rw [← hbb] at HSN HW ⊢
  clear hbb
  go_upto_if 75 with (fail)
  go_cut [14] from 76 to 78 (fun t14 wx => t14 = .int .i64 since ∧ w9 = wx)
  case first =>
    cases bb
    · have hq : since = 0 := HSN.out
      have HQ := Lib.hid hq
      clear hq
      go_wp2_with fail
      go_meet
      exact ⟨by rw [HQ.out], rfl⟩
    · have hq : since = x - mk := HSN.out
      have hmr := HW.out rfl
      have HQ := Lib.hid hq
      clear hq
      go_wp2_with fail
      go_meet
      exact ⟨by rw [HQ.out], rfl⟩
  case rest =>
  obtain ⟨rfl, rfl⟩ := hcut
  clear HW HSN
  obtain ⟨age, hage⟩ : ∃ a, a = ageDone D.birth x := ⟨_, rfl⟩
  have HAGE := Lib.hid hage
  clear hage
  have h6 := BoxAt.new w9 101 [.int .i64 0, .int .i64 1]
  have hsb := (Same.refl w9).alloc (.cells #[.int .i64 0, .int .i64 1] 101)
  go_upto_region 13 with (fail)
  generalize w9.alloc (.cells #[.int .i64 0, .int .i64 1] 101) = w10 at *
  replace h1 := h1.same hsb
  replace h5 := h5.same hsb
  replace h4 := h4.same hsb
  have S10 := S9.trans hsb
  clear hsb S9
  have HQ := Lib.hid (fun w => sAgeAt_any D.birth x w)
  rw [← HAGE.out] at HQ
  have y0 := h5.cell 0 rfl
  have y1 := h5.cell 1 rfl
  have y2 := h1.cell 3 rfl
  have y3 := h4.cell 0 rfl
  have y4 := h4.cell 1 rfl
  have y5 := h6.cell 0 rfl
  have y6 := h6.cell 1 rfl
  have hKP := Lib.hid (fun (z : World) (hz : Same w10 z) => show z.cell? ⟨w3.heap.size, 0, none⟩ = some (.int .i64 s1) ∧ z.cell? ⟨w3.heap.size, 1, none⟩ = some (.int .i64 s2) ∧ z.cell? ⟨w.heap.size, 3, none⟩ = some (.int .i64 D.birth) ∧ z.cell? ⟨w6.heap.size, 0, none⟩ = some (.int .i64 r1) ∧ z.cell? ⟨w6.heap.size, 1, none⟩ = some (.int .i64 r2) ∧ z.cell? ⟨w9.heap.size, 0, none⟩ = some (.int .i64 0) ∧ z.cell? ⟨w9.heap.size, 1, none⟩ = some (.int .i64 1) from ⟨(h5.same hz).cell 0 rfl, (h5.same hz).cell 1 rfl, (h1.same hz).cell 3 rfl, (h4.same hz).cell 0 rfl, (h4.same hz).cell 1 rfl, (h6.same hz).cell 0 rfl, (h6.same hz).cell 1 rfl⟩)
  go_region_held3 (fun z => z.cell? ⟨w3.heap.size, 0, none⟩ = some (.int .i64 s1) ∧ z.cell? ⟨w3.heap.size, 1, none⟩ = some (.int .i64 s2) ∧ z.cell? ⟨w.heap.size, 3, none⟩ = some (.int .i64 D.birth) ∧ z.cell? ⟨w6.heap.size, 0, none⟩ = some (.int .i64 r1) ∧ z.cell? ⟨w6.heap.size, 1, none⟩ = some (.int .i64 r2) ∧ z.cell? ⟨w9.heap.size, 0, none⟩ = some (.int .i64 0) ∧ z.cell? ⟨w9.heap.size, 1, none⟩ = some (.int .i64 1))
    (first | exact ⟨y0, y1, y2, y3, y4, y5, y6⟩ | exact hKP.out _ ((Same.refl w10).drew.alloc _) | exact hKP.out _ ((Same.refl w10).alloc _).drew)
    (first | (go_at_call 139; refine (HQ.out _).mono ?_; rintro en w11 ⟨rfl, rfl⟩))
  clear hKP y0 y1 y2 y3 y4 y5 y6
  have hb : BoxAt (w10.alloc (.cells #[.int .i64 s1, .int .i64 s2, .int .i64 pay, .int .i64 1, .int .i64 age, .int .i64 1, .int .i64 r1, .int .i64 r2, .int .i64 since, .int .i64 1, .int .i64 x, .int .i64 1, .int .i64 0, .int .i64 1, .int .i64 0, .int .i64 1] 101)).drew w10.heap.size 101 [.int .i64 s1, .int .i64 s2, .int .i64 pay, .int .i64 1, .int .i64 age, .int .i64 1, .int .i64 r1, .int .i64 r2, .int .i64 since, .int .i64 1, .int .i64 x, .int .i64 1, .int .i64 0, .int .i64 1, .int .i64 0, .int .i64 1] := (BoxAt.new w10 101 [.int .i64 s1, .int .i64 s2, .int .i64 pay, .int .i64 1, .int .i64 age, .int .i64 1, .int .i64 r1, .int .i64 r2, .int .i64 since, .int .i64 1, .int .i64 x, .int .i64 1, .int .i64 0, .int .i64 1, .int .i64 0, .int .i64 1]).same (Same.refl _).drew
  have S11 := (S10.alloc (.cells #[.int .i64 s1, .int .i64 s2, .int .i64 pay, .int .i64 1, .int .i64 age, .int .i64 1, .int .i64 r1, .int .i64 r2, .int .i64 since, .int .i64 1, .int .i64 x, .int .i64 1, .int .i64 0, .int .i64 1, .int .i64 0, .int .i64 1] 101)).drew
  generalize (w10.alloc (.cells #[.int .i64 s1, .int .i64 s2, .int .i64 pay, .int .i64 1, .int .i64 age, .int .i64 1, .int .i64 r1, .int .i64 r2, .int .i64 since, .int .i64 1, .int .i64 x, .int .i64 1, .int .i64 0, .int .i64 1, .int .i64 0, .int .i64 1] 101)).drew = w11 at *
  have HVO := Lib.hid (show varsOf D x known = [(s1, s2), (pay, 1), (age, 1), (r1, r2), (since, 1), (x, 1), (0, 1), (0, 1)] by unfold varsOf; rw [← HSR.out, ← HPAY.out, ← HAGE.out, ← HRR.out, ← HSI.out])
  have hown : OwnFrac w11 w.heap.size (.slice (some ⟨w10.heap.size, 0, none⟩) 8 8) [(s1, s2), (pay, 1), (age, 1), (r1, r2), (since, 1), (x, 1), (0, 1), (0, 1)] := OwnR.of_box (L := [(s1, s2), (pay, 1), (age, 1), (r1, r2), (since, 1), (x, 1), (0, 1), (0, 1)]) hb S10.size rfl rfl (by simp)
  rw [← HVO.out] at hown
  have h8 : (varsOf D x known).length = 8 := by rw [HVO.out]; rfl
  clear h1 h4 h5 h6 hb
  have HC := Lib.hid (fun (wz : World) (hoz : OwnFrac wz w.heap.size (.slice (some ⟨w10.heap.size, 0, none⟩) 8 8) (varsOf D x known)) => show Calls Tryz.prog 140 #[.slice (some ⟨w10.heap.size, 0, none⟩) 8 8] wz _ from by have hh := l08Vars_any (some ⟨w10.heap.size, 0, none⟩) 8 (varsOf D x known) wz (by omega) (OwnR.recs cFrac_len hoz); rw [h8] at hh; exact hh)
  have HF8 : Hid (varsOk (varsOf D x known) = fracsOk (varsOf D x known)) := by show _ = _; unfold varsOk; rw [h8]; simp
  rw [HF8.out] at HC
  have H8 := Lib.hid h8
  clear h8
  cases hf : fracsOk (varsOf D x known)
  · have HV := Lib.hid (varsIn_un hf)
    rw [hf] at HC
    clear hf
    go_wp2_with fail
    refine (HC.out _ hown).mono ?_
    rintro en w12 ⟨rfl, hs12⟩
    go_wp2
    go_ret2
    exact RetV.empty HV.out (S11.trans hs12)
  · have HV := Lib.hid (varsIn_yes HRG.out hf)
    rw [hf] at HC
    clear hf
    go_wp2_with fail
    refine (HC.out _ hown).mono ?_
    rintro en w12 ⟨rfl, hs12⟩
    go_wp2
    go_ret2
    exact ⟨some ⟨w10.heap.size, 0, none⟩, 8, by rw [HV.out]; dsimp only; rw [H8.out]; rfl, by rw [HV.out]; dsimp only; rw [H8.out]; exact hown.same hs12, S11.trans hs12⟩
end Go.Proofs.YtjfmknhnplefnaaGreat
