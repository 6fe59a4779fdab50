/-
  FnEntitled: for every list of bytes, the drawn case's entitlement is 0 but for pensioners, and the figure of the rule book. No condition.
-/
import Derived.Test.YtjfmknhnplefnaaGreatZDrawC
import Derived.Test.YtjfmknhnplefnaaGreatZEntitle
import Derived.Deep.RegionHeld3
namespace Go.Proofs.YtjfmknhnplefnaaGreat
open Go.RowKit
set_option linter.unusedVariables false

theorem ent_status {D : TCase} {x k : Int} (h : statusAt D.E x ≠ 3) : entAt D x k = 0 := by
  unfold entAt; split
  · exact entIn_not h
  · rfl
theorem varsFor_ok {D : TCase} {x k : Int} (h : (varsFor D x k).2 = true) : D.ok = true ∧ varsFor D x k = varsIn D x k := by
  cases ho : D.ok
  · rw [varsFor_bad ho] at h; cases h
  · exact ⟨rfl, varsFor_in ho⟩
theorem varsFor_short (D : TCase) (x k : Int) : (varsFor D x k).1.length ≤ 1048576 := by
  cases ho : D.ok
  · rw [varsFor_bad ho]; simp
  · rw [varsFor_in ho]; have := varsIn_len D x k; omega
theorem ent_bad {D : TCase} {x k : Int} (h : statusAt D.E x = 3) (hb : (figure D.R x D.joined (varsFor D x k).1).2.2 = false ∨ (varsFor D x k).2 = false) : entAt D x k = 0 := by
  cases ho : D.ok
  · exact entAt_bad ho
  · rw [entAt_in ho, entIn_is h]
    rw [varsFor_in ho] at hb
    rcases hb with hb | hb
    · rw [hb, Bool.and_false]; rfl
    · rw [hb, Bool.false_and]; rfl
theorem ent_good {D : TCase} {x k n : Int} (h : statusAt D.E x = 3) (hv : (varsFor D x k).2 = true) (hf : (figure D.R x D.joined (varsFor D x k).1).2.2 = true) (hn : n = (figure D.R x D.joined (varsFor D x k).1).1) :
    entAt D x k = min (max n 0) 10000000 ∧ D.ok = true ∧ 0 ≤ ruleUsed D x ∧ memberOk D.birth D.joined D.S D.E = true := by
  obtain ⟨ho, he⟩ := varsFor_ok hv
  refine ⟨?_, ho, ?_, ?_⟩
  · rw [entAt_in ho, entIn_is h]
    rw [he] at hv hf hn
    rw [hv, hf, hn]
    rfl
  · rw [ruleUsed_yes ho]
    have hr : ¬ ruleFor D.R 1 x D.joined < 0 := fun hneg => by rw [figure_no hneg] at hf; cases hf
    rw [ruleFor, if_pos (TCase.ok_book ho)] at hr
    omega
  · rw [D.ok_eq] at ho
    simp only [Bool.and_eq_true] at ho
    exact ho.2

set_option maxRecDepth 10000 in
set_option maxHeartbeats 4000000 in
theorem lawEntitled (A : Option Addr) (n c : Nat) (w : World) (hn : n ≤ 9223372036854775807) (hA : BytesAt w w.heap.size A n) :
    Calls Tryz.prog 3 #[.slice A n c] w fun e w' => e = .returned (.bool true) ∧ Same w w' := by
  by_cases hbig : n ≤ 1048576
  · go_enter Tryz.func3, Tryz.ntmps3
    go_wp2_with fail
    refine (big_no A n c _ hbig).mono ?_
    rintro e w0 ⟨rfl, rfl⟩
    go_wp2_with fail
    refine (drawCase_any A n c _ hbig hA).mono ?_
    rintro e w1 ⟨D, m, rfl, o1, hD, s1⟩
    have hx := BoxAt.new w1 38 [.slice m.r D.R.length m.rc, .slice m.f D.F.length m.fc, .slice m.p D.P.length m.pc, .int .i64 D.birth, .int .i64 D.joined, .slice m.s D.S.length m.sc, .slice m.e D.E.length m.ec]
    have al := (Same.refl w1).alloc (.cells #[.slice m.r D.R.length m.rc, .slice m.f D.F.length m.fc, .slice m.p D.P.length m.pc, .int .i64 D.birth, .int .i64 D.joined, .slice m.s D.S.length m.sc, .slice m.e D.E.length m.ec] 38)
    have hcap := o1.rules.cap
    have hA1 := o1.at_.same al
    have S2 := s1.trans al
    have l2 := hx.lt
    clear s1 al o1
    go_wp2_with fail
    generalize w1.alloc (.cells #[.slice m.r D.R.length m.rc, .slice m.f D.F.length m.fc, .slice m.p D.P.length m.pc, .int .i64 D.birth, .int .i64 D.joined, .slice m.s D.S.length m.sc, .slice m.e D.E.length m.ec] 38) = w2 at *
    refine (drawPlaces_any A n c _ hbig (hA.keep' S2)).mono ?_
    rintro e w3 ⟨ps, Ap, cp, rfl, hpl, ho2, hs2⟩
    obtain ⟨a, ha, ha0, ha1⟩ := hpl.get (k := 0) (by omega)
    obtain ⟨b, hb, hb0, hb1⟩ := hpl.get (k := 1) (by omega)
    obtain ⟨h, rfl, _⟩ := ho2.at_ ha
    have ca := ho2.cell ha
    have cb := ho2.cell hb
    have hl12 : (12 : Int) ≤ (ps.length : Int) := by have := hpl.1; omega
    obtain ⟨x, hx_⟩ : ∃ x, x = a % 100 := ⟨_, rfl⟩
    obtain ⟨k, hk_⟩ : ∃ k, k = b % 100 := ⟨_, rfl⟩
    have HX := Lib.hid hx_
    have HK_ := Lib.hid hk_
    clear hx_ hk_ ha hb hpl ho2
    have S3 := S2.trans hs2
    replace hx := hx.same hs2
    replace hA1 := hA1.same hs2
    clear hs2 S2
    generalize hg0 : w1.heap.size = gx at *
    clear hg0
    have a0 := hx.cell 0 rfl
    have a1 := hx.cell 1 rfl
    have a2 := hx.cell 2 rfl
    have a3 := hx.cell 3 rfl
    have a4 := hx.cell 4 rfl
    have a5 := hx.cell 5 rfl
    have a6 := hx.cell 6 rfl
    have aL := hx.lt
    go_wp2_with fail
    clear a0 a1 a2 a3 a4 a5 a6 aL ca cb
    rw [← HX.out, ← HK_.out]
    refine (iEntAt_any D m x k _ hD hcap hA1).mono ?_
    obtain ⟨v, hv⟩ : ∃ v, v = entAt D x k := ⟨_, rfl⟩
    rw [← hv]
    have HV := Lib.hid hv
    clear hv
    rintro e w4 ⟨rfl, t4⟩
    replace hx := hx.same t4
    have S4 := S3.trans t4
    replace hA1 := hA1.same t4
    have l4 := hx.lt
    clear t4 S3 l2
    obtain ⟨okb, hok⟩ : ∃ b, b = D.ok := ⟨_, rfl⟩
    have HOK := Lib.hid hok
    have hbb : (okb != okb) = false := by simp
    have hKK := Lib.hid (fun (w' : World) (hw' : Same w4 w') => show Same w4 w' ∧ w'.cell? ⟨gx, 0, none⟩ = some (.slice m.r D.R.length m.rc) ∧ w'.cell? ⟨gx, 1, none⟩ = some (.slice m.f D.F.length m.fc) ∧ w'.cell? ⟨gx, 2, none⟩ = some (.slice m.p D.P.length m.pc) ∧ w'.cell? ⟨gx, 3, none⟩ = some (.int .i64 D.birth) ∧ w'.cell? ⟨gx, 4, none⟩ = some (.int .i64 D.joined) ∧ w'.cell? ⟨gx, 5, none⟩ = some (.slice m.s D.S.length m.sc) ∧ w'.cell? ⟨gx, 6, none⟩ = some (.slice m.e D.E.length m.ec) from ⟨hw', (hx.same hw').cell 0 rfl, (hx.same hw').cell 1 rfl, (hx.same hw').cell 2 rfl, (hx.same hw').cell 3 rfl, (hx.same hw').cell 4 rfl, (hx.same hw').cell 5 rfl, (hx.same hw').cell 6 rfl⟩)
    have HCI := Lib.hid (fun (w' : World) (hw' : Same w4 w') => iCaseOk_any D m w' hD hcap (hA1.same hw'))
    have HCS := Lib.hid (fun (w' : World) (hw' : Same w4 w') => sCaseOk_any D m w' hD hcap (hA1.same hw'))
    rw [← hok] at HCI HCS
    clear hok
    go_wp2
    go_region_held3 (fun w' => Same w4 w' ∧ w'.cell? ⟨gx, 0, none⟩ = some (.slice m.r D.R.length m.rc) ∧ w'.cell? ⟨gx, 1, none⟩ = some (.slice m.f D.F.length m.fc) ∧ w'.cell? ⟨gx, 2, none⟩ = some (.slice m.p D.P.length m.pc) ∧ w'.cell? ⟨gx, 3, none⟩ = some (.int .i64 D.birth) ∧ w'.cell? ⟨gx, 4, none⟩ = some (.int .i64 D.joined) ∧ w'.cell? ⟨gx, 5, none⟩ = some (.slice m.s D.S.length m.sc) ∧ w'.cell? ⟨gx, 6, none⟩ = some (.slice m.e D.E.length m.ec))
      (first | exact hKK.out _ (Same.refl _).drew | (go_split_ands; exact hKK.out _ (Same.trans (by assumption) hs5)) | (go_split_ands; exact hKK.out _ (Same.trans (by assumption) hs6)))
      (first
        | (go_split_ands; go_at_call 14; refine (HCI.out _ (by assumption)).mono ?_; rintro e w5 ⟨rfl, hs5⟩)
        | (go_split_ands; go_at_call 15; refine (HCS.out _ (by assumption)).mono ?_; rintro e w6 ⟨rfl, hs6⟩))
    go_split_ands
    have u : Same w4 w6 := by assumption
    have S6 := S4.trans u
    have hx6 := hx.same u
    have hA6 := hA1.same u
    clear hKK HCI HCS hbb
    clear hx hA1 u S4 l4
    have a6 := hx6.cell 6 rfl
    have aL := hx6.lt
    go_wp2_with fail
    clear a6 aL
    by_cases hst : statusAt D.E x = 3
    case neg =>
      have HST := Lib.hid (fun w h => sStatusAt_any m.e m.ec D.E x w hD.E h)
      have hz : (v == 0) = true := by rw [HV.out, ent_status hst]; rfl
      obtain ⟨st, hs⟩ : ∃ s, s = statusAt D.E x := ⟨_, rfl⟩
      rw [← hs] at hst HST
      have b0 : (st != 3) = true := by simp [hst]
      clear hs hst
      refine (HST.out _ hA6.events).mono ?_
      rintro e w7 ⟨rfl, t7⟩
      go_wp2
      go_ret
      exact ⟨rfl, S6.trans t7⟩
    have HST := Lib.hid (fun w h => sStatusAt_any m.e m.ec D.E x w hD.E h)
    obtain ⟨r, hr⟩ : ∃ r, r = varsFor D x k := ⟨_, rfl⟩
    have hrl : r.1.length ≤ 1048576 := by rw [hr]; exact varsFor_short D x k
    have HBAD := Lib.hid (show ((figure D.R x D.joined r.1).2.2 = false ∨ r.2 = false) → v = 0 by rw [hr, HV.out]; exact ent_bad hst)
    have HGOOD := Lib.hid (show ∀ n, r.2 = true → (figure D.R x D.joined r.1).2.2 = true → n = (figure D.R x D.joined r.1).1 → v = min (max n 0) 10000000 ∧ D.ok = true ∧ 0 ≤ ruleUsed D x ∧ memberOk D.birth D.joined D.S D.E = true by rw [hr, HV.out]; intro n; exact ent_good hst)
    have HR := Lib.hid hr
    rw [hst] at HST
    clear hst hr HV
    refine (HST.out _ hA6.events).mono ?_
    rintro e w7 ⟨rfl, t7⟩
    have S7 := S6.trans t7
    have hx7 := hx6.same t7
    have hA7 := hA6.same t7
    clear t7 S6 hx6 hA6 HST
    have a0 := hx7.cell 0 rfl
    have a1 := hx7.cell 1 rfl
    have a2 := hx7.cell 2 rfl
    have a3 := hx7.cell 3 rfl
    have a4 := hx7.cell 4 rfl
    have a5 := hx7.cell 5 rfl
    have a6 := hx7.cell 6 rfl
    have aL := hx7.lt
    go_wp2_with fail
    clear a0 a1 a2 a3 a4 a5 a6 aL
    refine (iVarsFor_any D m x k _ hD hcap hA7).mono ?_
    rw [← HR.out]
    clear HR
    obtain ⟨V, vb⟩ := r
    unfold RetV
    dsimp only at hrl HBAD HGOOD ⊢
    rintro en w8 ⟨Cv, d, rfl, ho, t8⟩
    have S8 := S7.trans t8
    have hx8 := hx7.same t8
    have hA8 := hA7.same t8
    have hrec := OwnR.recs cFrac_len ho
    clear t8 S7 hx7 hA7 ho
    have a0 := hx8.cell 0 rfl
    have a4 := hx8.cell 4 rfl
    have aL := hx8.lt
    go_wp2_with fail
    clear a0 a4 aL
    refine (sFigure_any m.r m.rc D.R x D.joined Cv d V _ hD.R hcap hD.N hrl hA8.rules hrec).mono ?_
    obtain ⟨f, hf⟩ : ∃ f, f = figure D.R x D.joined V := ⟨_, rfl⟩
    rw [← hf] at HBAD HGOOD ⊢
    clear hf
    obtain ⟨n2, at_, fb⟩ := f
    dsimp only at HBAD HGOOD ⊢
    rintro en w9 ⟨rfl, t9⟩
    have S9 := S8.trans t9
    have hx9 := hx8.same t9
    have hA9 := hA8.same t9
    clear t9 S8 hx8 hA8 hrec
    cases fb
    · have hz : (v == 0) = true := by rw [HBAD.out (.inl rfl)]; rfl
      go_wp2
      go_ret
      exact ⟨rfl, S9⟩
    cases vb
    · have hz : (v == 0) = true := by rw [HBAD.out (.inr rfl)]; rfl
      go_wp2
      go_ret
      exact ⟨rfl, S9⟩
    obtain ⟨hv, ho, hu, hm⟩ := HGOOD.out n2 rfl rfl rfl
    have HM := Lib.hid hm
    have HO2 := Lib.hid ho
    have HU := Lib.hid hu
    have HV2 := Lib.hid hv
    clear hv ho hu hm HGOOD HBAD
    rcases (show (n2 < 0 ∧ v = 0) ∨ (0 ≤ n2 ∧ n2 ≤ 10000000 ∧ v = n2) ∨ (10000000 < n2 ∧ v = 10000000) by rw [HV2.out]; omega) with ⟨q1, q2⟩ | ⟨q1, q3, q2⟩ | ⟨q1, q2⟩
    all_goals
      subst q2
      clear HV2
      have a0 := hx9.cell 0 rfl
      have a1 := hx9.cell 1 rfl
      have a2 := hx9.cell 2 rfl
      have a3 := hx9.cell 3 rfl
      have a4 := hx9.cell 4 rfl
      have a5 := hx9.cell 5 rfl
      have a6 := hx9.cell 6 rfl
      have aL := hx9.lt
      go_wp2_with fail
      clear a0 a1 a2 a3 a4 a5 a6 aL
      refine (iRuleUsed_any D m x _ hD hcap hA9).mono ?_
      obtain ⟨ru, hru⟩ : ∃ r, r = ruleUsed D x := ⟨_, rfl⟩
      rw [← hru]
      have hru0 : 0 ≤ ru := by rw [hru]; exact HU.out
      clear hru
      rintro e w10 ⟨rfl, t10⟩
      have S10 := S9.trans t10
      have hx10 := hx9.same t10
      have hA10 := hA9.same t10
      clear t10
      have a0 := hx10.cell 0 rfl
      have a1 := hx10.cell 1 rfl
      have a2 := hx10.cell 2 rfl
      have a3 := hx10.cell 3 rfl
      have a4 := hx10.cell 4 rfl
      have a5 := hx10.cell 5 rfl
      have a6 := hx10.cell 6 rfl
      have aL := hx10.lt
      go_wp2_with fail
      clear a0 a1 a2 a3 a4 a5 a6 aL
      refine (iCaseOk_any D m _ hD hcap hA10).mono ?_
      rw [HO2.out]
      rintro e w11 ⟨rfl, t11⟩
      have S11 := S10.trans t11
      have hx11 := hx10.same t11
      have hA11 := hA10.same t11
      clear t11
      have a0 := hx11.cell 0 rfl
      have a1 := hx11.cell 1 rfl
      have a2 := hx11.cell 2 rfl
      have a3 := hx11.cell 3 rfl
      have a4 := hx11.cell 4 rfl
      have a5 := hx11.cell 5 rfl
      have a6 := hx11.cell 6 rfl
      have aL := hx11.lt
      go_wp2_with fail
      clear a0 a1 a2 a3 a4 a5 a6 aL
      refine (iMemberOk_any D.birth D.joined m.s m.sc D.S m.e m.ec D.E _ hD.S hD.E hA11.spells hA11.events).mono ?_
      rw [HM.out]
      rintro e w12 ⟨rfl, t12⟩
      go_wp2
      go_ret
      exact ⟨rfl, S11.trans t12⟩
  · go_enter Tryz.func3, Tryz.ntmps3
    go_wp2_with fail
    refine (big_yes A n c _ hn hbig).mono ?_
    rintro e w0 ⟨rfl, rfl⟩
    go_wp2
    go_ret
    exact ⟨rfl, Same.refl _⟩
end Go.Proofs.YtjfmknhnplefnaaGreat
