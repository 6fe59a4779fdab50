/-
  The figure of a rule book, either side.
-/
import Derived.Test.YtjfmknhnplefnaaGreatZRound
import Derived.Test.YtjfmknhnplefnaaGreatZEval
import Derived.Test.YtjfmknhnplefnaaGreatZRuleFor
import Derived.Deep.RegionHeld3
namespace Go.Proofs.YtjfmknhnplefnaaGreat
open Go.RowKit
set_option linter.unusedVariables false
set_option linter.unusedSimpArgs false

set_option maxHeartbeats 1000000 in
theorem sRuleFor_any (A : Option Addr) (c : Nat) (R : List TRule) (name m joined : Int) (w : World) (hz : R.length ≤ 1048576) (hcap : R.length ≤ c) (hN : SmallR R 1048576) (hA : RulesAt w A R) :
    Calls Tryz.prog 69 #[.agg #[.slice A R.length c], .int .i64 name, .int .i64 m, .int .i64 joined] w fun e w' => e = .returned (.int .i64 (ruleFor R name m joined)) ∧ Same w w' := by
  cases hk : bookOk R
  · have HV := Lib.hid (show ruleFor R name m joined = -1 by unfold ruleFor; rw [hk]; rfl)
    go_enter Tryz.func69, Tryz.ntmps69
    go_wp2_with fail
    refine (sBookOk_any A c R _ hz hcap hN (hA.same ((Same.refl w).alloc _))).mono ?_
    rw [hk]
    rintro e w1 ⟨rfl, hs1⟩
    go_wp2
    go_ret
    exact ⟨ret_int HV.out.symm, ((Same.refl w).alloc _).trans hs1⟩
  · have HV := Lib.hid (show ruleFor R name m joined = bestTo R name m joined R.length by unfold ruleFor; rw [hk]; rfl)
    go_enter Tryz.func69, Tryz.ntmps69
    go_wp2_with fail
    have h1 : BoxAt (w.alloc (.cells #[.slice A R.length c] 26)) (w.heap.size) 26 [.slice A R.length c] := by simpa using (BoxAt.new w 26 [.slice A R.length c])
    have hs0 := (Same.alloc (Same.refl w) (.cells #[.slice A R.length c] 26))
    generalize (w.alloc (.cells #[.slice A R.length c] 26)) = w0 at *
    refine (sBookOk_any A c R _ hz hcap hN (hA.same hs0)).mono ?_
    rw [hk]
    rintro e w1 ⟨rfl, hs1⟩
    have b0 := (h1.same hs1).cell 0 rfl
    go_wp2_with fail
    refine (sl10For_any A c R name m joined _ hz ((hA.same hs0).same hs1)).mono ?_
    rw [← HV.out]
    rintro e w2 ⟨rfl, hs2⟩
    clear b0
    go_wp2
    go_ret
    exact ⟨rfl, (hs0.trans hs1).trans hs2⟩

theorem ruleFor_at {R : List TRule} {name m joined : Int} (h : 0 ≤ ruleFor R name m joined) : ∃ k : Nat, ruleFor R name m joined = k ∧ k < R.length ∧ bookOk R = true := by
  unfold ruleFor at h ⊢
  split at h
  · rename_i hk
    rw [if_pos hk]
    have := bestTo_range R name m joined R.length
    exact ⟨(bestTo R name m joined R.length).toNat, by omega, by omega, hk⟩
  · omega
theorem book_mode {R : List TRule} (h : bookOk R = true) {k : Nat} {r : TRule} (hx : R[k]? = some r) : inB r.mode 1 4 = true := by
  have hk := (List.getElem?_eq_some_iff.1 hx).1
  simp only [bookOk, Bool.and_eq_true] at h
  have := allTo_iff.1 h.1 k hk
  rw [ruleAt_eq hx, Bool.and_eq_true] at this
  have h2 := this.1
  simp only [ruleOk, Bool.and_eq_true] at h2
  exact h2.1.2
theorem figure_no {R : List TRule} {m joined : Int} {vars : List TFrac} (h : ruleFor R 1 m joined < 0) : figure R m joined vars = (0, 0, false) := by unfold figure; rw [if_pos h]
theorem figure_bad {R : List TRule} {m joined : Int} {vars : List TFrac} {k : Nat} {r : TRule} (h : ruleFor R 1 m joined = k) (hx : R[k]? = some r) (hv : (evalOf r.nodes vars).2.2 = false) : figure R m joined vars = (0, 0, false) := by
  have e : R.getD (k : Int).toNat default = r := by simp [List.getD, hx]
  unfold figure
  rw [if_neg (by omega), h]
  simp only [e, hv]
  rfl
theorem figure_yes {R : List TRule} {m joined : Int} {vars : List TFrac} {k : Nat} {r : TRule} {n d : Int} (h : ruleFor R 1 m joined = k) (hx : R[k]? = some r) (hv : evalOf r.nodes vars = (n, d, true)) : figure R m joined vars = ((roundFrac n d r.mode).1, (k : Int), true) := by
  have e : R.getD (k : Int).toNat default = r := by simp [List.getD, hx]
  unfold figure
  rw [if_neg (by omega), h]
  simp only [e, hv]
  rfl

set_option maxRecDepth 10000 in
set_option maxHeartbeats 4000000 in
theorem sFigure_any (A : Option Addr) (c : Nat) (R : List TRule) (m joined : Int) (B : Option Addr) (e : Nat) (vars : List TFrac) (w : World) (hz : R.length ≤ 1048576) (hcap : R.length ≤ c) (hN : SmallR R 1048576) (hzv : vars.length ≤ 1048576) (hA : RulesAt w A R) (hB : AtFrac w B vars) :
    Calls Tryz.prog 18 #[.agg #[.slice A R.length c], .int .i64 1, .int .i64 m, .int .i64 joined, .slice B vars.length e] w fun en w' => en = .returned (.tuple #[.int .i64 (figure R m joined vars).1, .int .i64 (figure R m joined vars).2.1, .bool (figure R m joined vars).2.2]) ∧ Same w w' := by
  by_cases hneg : ruleFor R 1 m joined < 0
  · have HV := Lib.hid (figure_no (vars := vars) hneg)
    obtain ⟨i, hi⟩ : ∃ i, i = ruleFor R 1 m joined := ⟨_, rfl⟩
    have HF := Lib.hid (fun w h => sRuleFor_any A c R 1 m joined w hz hcap hN h)
    rw [← hi] at hneg HF
    clear hi
    go_enter Tryz.func18, Tryz.ntmps18
    go_wp2_with fail
    refine (HF.out _ (hA.same ((Same.refl w).alloc _))).mono ?_
    rintro en w1 ⟨rfl, hs1⟩
    go_wp2
    go_ret3
    exact ⟨by rw [HV.out]; rfl, ((Same.refl w).alloc _).trans hs1⟩
  obtain ⟨k, hk, hkl, hbk⟩ := ruleFor_at (R := R) (name := 1) (m := m) (joined := joined) (by omega)
  have HF := Lib.hid (fun w h => sRuleFor_any A c R 1 m joined w hz hcap hN h)
  rw [hk] at HF
  have HK := Lib.hid hk
  have HBK := Lib.hid hbk
  clear hneg hbk hk
  go_enter Tryz.func18, Tryz.ntmps18
  go_wp2_with fail
  have h1 : BoxAt (w.alloc (.cells #[.slice A R.length c] 26)) (w.heap.size) 26 [.slice A R.length c] := by simpa using (BoxAt.new w 26 [.slice A R.length c])
  have hs0 := (Same.alloc (Same.refl w) (.cells #[.slice A R.length c] 26))
  generalize (w.alloc (.cells #[.slice A R.length c] 26)) = w0 at *
  refine (HF.out _ (hA.same hs0)).mono ?_
  rintro en w1 ⟨rfl, hs1⟩
  replace h1 := h1.same hs1
  have S1 := hs0.trans hs1
  clear hs0 hs1 HF
  obtain ⟨b, off, r, B2, d2, rfl, hc, HX, hnd, hbl⟩ := (hA.same S1).at_ hkl
  have hrn := hN r (List.mem_of_getElem? HX.out)
  have HMD := Lib.hid (book_mode HBK.out HX.out)
  have HYES := Lib.hid (fun (n d : Int) (hv : evalOf r.nodes vars = (n, d, true)) => figure_yes HK.out HX.out hv)
  have HBAD := Lib.hid (fun (hv : (evalOf r.nodes vars).2.2 = false) => figure_bad (m := m) (joined := joined) HK.out HX.out hv)
  have HEV := Lib.hid (evalOf_ok (L := r.nodes) (vars := vars))
  obtain ⟨nm, fr, tq, jo, ra, mo, N⟩ := r
  obtain ⟨c0, c1, c2, c3, c4, c5, c6⟩ := rule_cells hc
  dsimp only at hrn HMD HYES HBAD HEV hnd
  clear hA HX c0 c1 c2 c3 c4 hc
  have a0 := h1.cell 0 rfl
  have aL := h1.lt
  go_wp2_with fail
  refine (sEval_any B2 d2 N B e vars _ hrn hzv hnd (hB.same S1)).mono ?_
  obtain ⟨v, hv⟩ : ∃ v, v = evalOf N vars := ⟨_, rfl⟩
  rw [← hv] at HBAD HYES HEV ⊢
  clear hv
  obtain ⟨v1, v2, vb⟩ := v
  dsimp only at HBAD HYES HEV ⊢
  rintro en w2 ⟨rfl, hs2⟩
  replace h1 := h1.same hs2
  replace c5 := (hs2.cell (p := ⟨b, off + k * 7 + 5, none⟩) hbl).trans c5
  have hbl2 := Nat.lt_of_lt_of_le hbl hs2.size
  have S2 := S1.trans hs2
  clear a0 aL c6 hnd hB hs2 S1 hbl
  have h3 := BoxAt.new w2 101 [.int .i64 v1, .int .i64 v2]
  have S3 := S2.alloc (.cells #[.int .i64 v1, .int .i64 v2] 101)
  have hsa := (Same.refl w2).alloc (.cells #[.int .i64 v1, .int .i64 v2] 101)
  cases vb
  · have HV := Lib.hid (HBAD.out rfl)
    go_wp2
    go_ret3
    exact ⟨by rw [HV.out]; rfl, S3⟩
  have HV := Lib.hid (HYES.out v1 v2 rfl)
  have HQ := Lib.hid (fun w => sRoundFrac_any v1 v2 mo w)
  go_wp2_with fail
  have hx1 := h1.same hsa
  have hx5 := (hsa.cell (p := ⟨b, off + k * 7 + 5, none⟩) hbl2).trans c5
  have hbl3 := Nat.lt_of_lt_of_le hbl2 hsa.size
  generalize w2.alloc (.cells #[.int .i64 v1, .int .i64 v2] 101) = w3 at *
  have y0 := h3.cell 0 rfl
  have y1 := h3.cell 1 rfl
  have y2 := hx1.cell 0 rfl
  have kk : IntKind.i64.wrap (k : Int) = (k : Int) := IntWalk.i64_in _ (by omega)
  have k1 : (0 : Int) ≤ (k : Int) := by omega
  have k2 : (k : Int) < (R.length : Int) := by omega
  go_region_held3 (fun x => x.cell? ⟨w2.heap.size, 0, none⟩ = some (.int .i64 v1) ∧ x.cell? ⟨w2.heap.size, 1, none⟩ = some (.int .i64 v2) ∧ x.cell? ⟨w.heap.size, 0, none⟩ = some (.slice (some ⟨b, off, none⟩) R.length c) ∧ x.cell? ⟨b, off + k * 7 + 5, none⟩ = some (.int .i64 mo))
    (first | exact ⟨y0, y1, y2, hx5⟩ | (with_reducible exact ⟨z0, z1, z2, z3⟩))
    (first | (go_at_call 71; refine (HQ.out _).mono ?_; rintro en w5 ⟨rfl, hs5⟩; (have T5 := (Same.refl _).drew.trans hs5); (have z0 := (h3.same T5).cell 0 rfl); (have z1 := (h3.same T5).cell 1 rfl); (have z2 := (hx1.same T5).cell 0 rfl); (have z3 := (T5.cell (p := ⟨b, off + k * 7 + 5, none⟩) hbl3).trans hx5)))
  go_wp2
  go_ret3
  exact ⟨by rw [HV.out]; rfl, S3.trans T5⟩

set_option maxRecDepth 10000 in
set_option maxHeartbeats 4000000 in
theorem iFigure_any (A : Option Addr) (c : Nat) (R : List TRule) (m joined : Int) (B : Option Addr) (e : Nat) (vars : List TFrac) (w : World) (hz : R.length ≤ 1048576) (hcap : R.length ≤ c) (hN : SmallR R 1048576) (hzv : vars.length ≤ 1048576) (hA : RulesAt w A R) (hB : AtFrac w B vars) :
    Calls Tryz.prog 48 #[.agg #[.slice A R.length c], .int .i64 1, .int .i64 m, .int .i64 joined, .slice B vars.length e] w fun en w' => en = .returned (.tuple #[.int .i64 (figure R m joined vars).1, .int .i64 (figure R m joined vars).2.1, .bool (figure R m joined vars).2.2]) ∧ Same w w' := by
  by_cases hneg : ruleFor R 1 m joined < 0
  · have HV := Lib.hid (figure_no (vars := vars) hneg)
    obtain ⟨i, hi⟩ : ∃ i, i = ruleFor R 1 m joined := ⟨_, rfl⟩
    have HF := Lib.hid (fun w h => iRuleFor_any A c R 1 m joined w hz hcap hN h)
    rw [← hi] at hneg HF
    clear hi
    go_enter Tryz.func48, Tryz.ntmps48
    go_wp2_with fail
    refine (HF.out _ (hA.same ((Same.refl w).alloc _))).mono ?_
    rintro en w1 ⟨rfl, hs1⟩
    go_wp2
    go_ret3
    exact ⟨by rw [HV.out]; rfl, ((Same.refl w).alloc _).trans hs1⟩
  obtain ⟨k, hk, hkl, hbk⟩ := ruleFor_at (R := R) (name := 1) (m := m) (joined := joined) (by omega)
  have HF := Lib.hid (fun w h => iRuleFor_any A c R 1 m joined w hz hcap hN h)
  rw [hk] at HF
  have HK := Lib.hid hk
  have HBK := Lib.hid hbk
  clear hneg hbk hk
  go_enter Tryz.func48, Tryz.ntmps48
  go_wp2_with fail
  have h1 : BoxAt (w.alloc (.cells #[.slice A R.length c] 26)) (w.heap.size) 26 [.slice A R.length c] := by simpa using (BoxAt.new w 26 [.slice A R.length c])
  have hs0 := (Same.alloc (Same.refl w) (.cells #[.slice A R.length c] 26))
  generalize (w.alloc (.cells #[.slice A R.length c] 26)) = w0 at *
  refine (HF.out _ (hA.same hs0)).mono ?_
  rintro en w1 ⟨rfl, hs1⟩
  replace h1 := h1.same hs1
  have S1 := hs0.trans hs1
  clear hs0 hs1 HF
  obtain ⟨b, off, r, B2, d2, rfl, hc, HX, hnd, hbl⟩ := (hA.same S1).at_ hkl
  have hrn := hN r (List.mem_of_getElem? HX.out)
  have HMD := Lib.hid (book_mode HBK.out HX.out)
  have HYES := Lib.hid (fun (n d : Int) (hv : evalOf r.nodes vars = (n, d, true)) => figure_yes HK.out HX.out hv)
  have HBAD := Lib.hid (fun (hv : (evalOf r.nodes vars).2.2 = false) => figure_bad (m := m) (joined := joined) HK.out HX.out hv)
  have HEV := Lib.hid (evalOf_ok (L := r.nodes) (vars := vars))
  obtain ⟨nm, fr, tq, jo, ra, mo, N⟩ := r
  obtain ⟨c0, c1, c2, c3, c4, c5, c6⟩ := rule_cells hc
  dsimp only at hrn HMD HYES HBAD HEV hnd
  clear hA HX c0 c1 c2 c3 c4 hc
  have a0 := h1.cell 0 rfl
  have aL := h1.lt
  go_wp2_with fail
  refine (iEval_any B2 d2 N B e vars _ hrn hzv hnd (hB.same S1)).mono ?_
  obtain ⟨v, hv⟩ : ∃ v, v = evalOf N vars := ⟨_, rfl⟩
  rw [← hv] at HBAD HYES HEV ⊢
  clear hv
  obtain ⟨v1, v2, vb⟩ := v
  dsimp only at HBAD HYES HEV ⊢
  rintro en w2 ⟨rfl, hs2⟩
  replace h1 := h1.same hs2
  replace c5 := (hs2.cell (p := ⟨b, off + k * 7 + 5, none⟩) hbl).trans c5
  have hbl2 := Nat.lt_of_lt_of_le hbl hs2.size
  have S2 := S1.trans hs2
  clear a0 aL c6 hnd hB hs2 S1 hbl
  have h3 := BoxAt.new w2 101 [.int .i64 v1, .int .i64 v2]
  have S3 := S2.alloc (.cells #[.int .i64 v1, .int .i64 v2] 101)
  have hsa := (Same.refl w2).alloc (.cells #[.int .i64 v1, .int .i64 v2] 101)
  have HQ := Lib.hid (fun w => iRoundFrac_any v1 v2 mo w)
  cases vb
  · have HV := Lib.hid (HBAD.out rfl)
    go_wp2_with fail
    have hx1 := h1.same hsa
    have hx5 := (hsa.cell (p := ⟨b, off + k * 7 + 5, none⟩) hbl2).trans c5
    have hbl3 := Nat.lt_of_lt_of_le hbl2 hsa.size
    generalize w2.alloc (.cells #[.int .i64 v1, .int .i64 v2] 101) = w3 at *
    have y0 := h3.cell 0 rfl
    have y1 := h3.cell 1 rfl
    have y2 := hx1.cell 0 rfl
    have kk : IntKind.i64.wrap (k : Int) = (k : Int) := IntWalk.i64_in _ (by omega)
    have k1 : (0 : Int) ≤ (k : Int) := by omega
    have k2 : (k : Int) < (R.length : Int) := by omega
    go_region_held3 (fun x => x.cell? ⟨w2.heap.size, 0, none⟩ = some (.int .i64 v1) ∧ x.cell? ⟨w2.heap.size, 1, none⟩ = some (.int .i64 v2) ∧ x.cell? ⟨w.heap.size, 0, none⟩ = some (.slice (some ⟨b, off, none⟩) R.length c) ∧ x.cell? ⟨b, off + k * 7 + 5, none⟩ = some (.int .i64 mo))
      (first | exact ⟨y0, y1, y2, hx5⟩ | (with_reducible exact ⟨z0, z1, z2, z3⟩))
      (first | (go_at_call 107; refine (HQ.out _).mono ?_; rintro en w5 ⟨rfl, hs5⟩; (have T5 := (Same.refl _).drew.trans hs5); (have z0 := (h3.same T5).cell 0 rfl); (have z1 := (h3.same T5).cell 1 rfl); (have z2 := (hx1.same T5).cell 0 rfl); (have z3 := (T5.cell (p := ⟨b, off + k * 7 + 5, none⟩) hbl3).trans hx5)))
    go_wp2
    go_ret3
    exact ⟨by rw [HV.out]; rfl, S3.trans T5⟩
  have HV := Lib.hid (HYES.out v1 v2 rfl)
  have HT := Lib.hid (show (roundFrac v1 v2 mo).2 = true by rw [roundFrac_yes (HEV.out rfl) HMD.out])
  go_wp2_with fail
  have hx1 := h1.same hsa
  have hx5 := (hsa.cell (p := ⟨b, off + k * 7 + 5, none⟩) hbl2).trans c5
  have hbl3 := Nat.lt_of_lt_of_le hbl2 hsa.size
  generalize w2.alloc (.cells #[.int .i64 v1, .int .i64 v2] 101) = w3 at *
  have y0 := h3.cell 0 rfl
  have y1 := h3.cell 1 rfl
  have y2 := hx1.cell 0 rfl
  have kk : IntKind.i64.wrap (k : Int) = (k : Int) := IntWalk.i64_in _ (by omega)
  have k1 : (0 : Int) ≤ (k : Int) := by omega
  have k2 : (k : Int) < (R.length : Int) := by omega
  go_region_held3 (fun x => x.cell? ⟨w2.heap.size, 0, none⟩ = some (.int .i64 v1) ∧ x.cell? ⟨w2.heap.size, 1, none⟩ = some (.int .i64 v2) ∧ x.cell? ⟨w.heap.size, 0, none⟩ = some (.slice (some ⟨b, off, none⟩) R.length c) ∧ x.cell? ⟨b, off + k * 7 + 5, none⟩ = some (.int .i64 mo))
    (first | exact ⟨y0, y1, y2, hx5⟩ | (with_reducible exact ⟨z0, z1, z2, z3⟩))
    (first | (go_at_call 107; refine (HQ.out _).mono ?_; rintro en w5 ⟨rfl, hs5⟩; (have T5 := (Same.refl _).drew.trans hs5); (have z0 := (h3.same T5).cell 0 rfl); (have z1 := (h3.same T5).cell 1 rfl); (have z2 := (hx1.same T5).cell 0 rfl); (have z3 := (T5.cell (p := ⟨b, off + k * 7 + 5, none⟩) hbl3).trans hx5)))
  rw [HT.out]
  go_wp2
  go_ret3
  exact ⟨by rw [HV.out]; rfl, S3.trans T5⟩
end Go.Proofs.YtjfmknhnplefnaaGreat
