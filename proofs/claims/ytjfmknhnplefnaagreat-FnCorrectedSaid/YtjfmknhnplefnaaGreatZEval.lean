/- Joined of EvalS, EvalI, Eval2: what is proved stands ahead of each part. -/
import Derived.Test.YtjfmknhnplefnaaGreatZNodeAny
import Derived.Test.YtjfmknhnplefnaaGreatZRuleOk
import Derived.Test.YtjfmknhnplefnaaGreatZPlain

section
/-
  Formulas evaluated (the specification's side).
-/
namespace Go.Proofs.YtjfmknhnplefnaaGreat
open Go.RowKit
set_option linter.unusedVariables false
set_option linter.unusedSimpArgs false

theorem fracsOk_false {V : List TFrac} {k : Nat} {x : TFrac} (hx : V[k]? = some x) (h : fracOk x.1 x.2 = false) : fracsOk V = false := all_false hx h
theorem fracsOk_take {V : List TFrac} (h : (V.take V.length).all (fun v => fracOk v.1 v.2) = true) : fracsOk V = true := by rwa [List.take_length] at h

set_option maxRecDepth 10000 in
set_option maxHeartbeats 1000000 in
theorem l08Vars_any (A : Option Addr) (c : Nat) (V : List TFrac) (w : World) (hz : V.length ≤ 1048576) (hA : AtFrac w A V) :
    Calls Tryz.prog 140 #[.slice A V.length c] w fun e w' => e = .returned (.bool (varsOk V)) ∧ Same w w' := by
  have HR := Lib.hid (show varsOk V = (fracsOk V && decide (V.length = 8)) from rfl)
  go_enter Tryz.func140, Tryz.ntmps140
  go_wp2
  go_loopw [3] (fun i wr => ∃ k : Nat, k ≤ V.length ∧ i = .int .i64 k ∧ Hid ((V.take k).all (fun v => fracOk v.1 v.2) = true) ∧ Same w wr) (fun i _ => V.length - (intOf i).toNat)
  case atStart => exact ⟨0, Nat.zero_le _, rfl, by simp [Hid], Same.refl _⟩
  case round =>
    obtain ⟨k, hk, rfl, hall, hs⟩ := hrel
    by_cases hlt : k < V.length
    · obtain ⟨b, off, x, rfl, hc, HX, hbl⟩ := (hA.same hs).at_ hlt
      clear hA
      obtain ⟨f0, f1⟩ := x
      have c0 := hc 0 _ rfl
      have c1 := hc 1 _ rfl
      simp only [Nat.add_zero] at c0
      clear hc
      go_wp2_with fail
      refine (sFracOk_any f0 f1 _).mono ?_
      rintro e w1 ⟨rfl, hs1⟩
      have hss := hs.trans hs1
      clear c0 c1
      cases hp : fracOk f0 f1
      · have HV := Lib.hid (show varsOk V = false by rw [HR.out, fracsOk_false HX.out hp]; rfl)
        go_wp2
        go_ret
        exact ⟨ret_bool HV.out.symm, hss⟩
      · have HP := Lib.hid (all_take_succ hall.out HX.out hp)
        go_wp2
        go_roundw
        case rel => exact ⟨k + 1, hlt, by go_num, HP, hss⟩
        case measure => simp [intOf]; omega
    · obtain rfl : k = V.length := by omega
      have HV := Lib.hid (show varsOk V = decide (V.length = 8) by rw [HR.out, fracsOk_take hall.out]; rfl)
      go_wp2
      go_ret
      exact ⟨ret_bool (by rw [HV.out]; by_cases h8 : V.length = 8 <;> simp [h8]; try omega), hs⟩

/-- What an evaluation hands back: the values, its row new, and whether it went through. -/
def RetEval (w : World) (L : List TNode) (vars : List TFrac) (en : Ending) (w' : World) : Prop :=
  ∃ C d, en = .returned (.tuple #[.slice C (evalAll L vars).1.length d, .bool (evalAll L vars).2]) ∧ OwnFrac w' w.heap.size (.slice C (evalAll L vars).1.length d) (evalAll L vars).1 ∧ Same w w'

theorem evalAll_bad {L : List TNode} {vars : List TFrac} (h : (formulaOk L && varsOk vars) = false) : evalAll L vars = ([], false) := by unfold evalAll; rw [h]; rfl
theorem evalAll_good {L : List TNode} {vars : List TFrac} (h : (formulaOk L && varsOk vars) = true) : evalAll L vars = evalTo L vars L.length := by unfold evalAll; rw [h]; rfl
theorem formula_at {L : List TNode} (h : formulaOk L = true) {k : Nat} {x : TNode} (hx : L[k]? = some x) : nodeOkT x k = true := by
  have hk := (List.getElem?_eq_some_iff.1 hx).1
  simp only [formulaOk, Bool.and_eq_true] at h
  have := allTo_iff.1 h.1 k hk
  rwa [nodeAt_eq hx] at this
theorem formula_len {L : List TNode} (h : formulaOk L = true) : 1 ≤ L.length ∧ L.length ≤ 30 := by
  simp only [formulaOk, Bool.and_eq_true, inB_iff] at h
  omega
theorem evalTo_stop {L : List TNode} {vars : List TFrac} {k : Nat} (hk : k ≤ L.length) (h : evalTo L vars k = ([], false)) : evalTo L vars L.length = ([], false) := by
  have := evalTo_stuck h (L.length - k)
  rwa [show k + (L.length - k) = L.length by omega] at this

set_option maxRecDepth 10000 in
set_option maxHeartbeats 4000000 in
theorem sEvalAll_any (A : Option Addr) (c : Nat) (L : List TNode) (B : Option Addr) (e : Nat) (vars : List TFrac) (w : World) (hz : L.length ≤ 1048576) (hzv : vars.length ≤ 1048576) (hA : AtNode w A L) (hB : AtFrac w B vars) :
    Calls Tryz.prog 125 #[.slice A L.length c, .slice B vars.length e] w (RetEval w L vars) := by
  have he := OwnR.empty 101 2 cFrac w (Nat.le_refl _)
  cases f1 : formulaOk L
  · have HV := Lib.hid (evalAll_bad (vars := vars) (show (formulaOk L && varsOk vars) = false by rw [f1]; rfl))
    go_enter Tryz.func125, Tryz.ntmps125
    go_wp2_with fail
    refine (sFormulaOk_any A c L _ hz (hA.same ((Same.refl w).alloc _))).mono ?_
    rw [f1]
    rintro en w1 ⟨rfl, hs1⟩
    go_wp2
    go_ret2
    exact ⟨_, _, by rw [HV.out]; rfl, by rw [HV.out]; exact he.same hs1, ((Same.refl w).alloc _).trans hs1⟩
  cases f2 : varsOk vars
  · have HV := Lib.hid (evalAll_bad (L := L) (show (formulaOk L && varsOk vars) = false by rw [f1, f2]; rfl))
    go_enter Tryz.func125, Tryz.ntmps125
    go_wp2_with fail
    refine (sFormulaOk_any A c L _ hz (hA.same ((Same.refl w).alloc _))).mono ?_
    rw [f1]
    rintro en w1 ⟨rfl, hs1⟩
    go_wp2_with fail
    refine (l08Vars_any B e vars _ hzv ((hB.same ((Same.refl w).alloc _)).same hs1)).mono ?_
    rw [f2]
    rintro en w2 ⟨rfl, hs2⟩
    go_wp2
    go_ret2
    exact ⟨_, _, by rw [HV.out]; rfl, by rw [HV.out]; exact (he.same hs1).same hs2, (((Same.refl w).alloc _).trans hs1).trans hs2⟩
  have hlen := formula_len f1
  have HV := Lib.hid (evalAll_good (show (formulaOk L && varsOk vars) = true by rw [f1, f2]; rfl))
  have HN := Lib.hid (fun (k : Nat) (x : TNode) (hx : L[k]? = some x) => formula_at f1 hx)
  have HI := Lib.hid (evalTo_inv f1 f2)
  have h8 : Hid (vars.length = 8) := by have := f2; simp only [varsOk, Bool.and_eq_true, decide_eq_true_eq] at this; exact this.2
  have F1 := Lib.hid f1
  have F2 := Lib.hid f2
  clear f1 f2
  go_enter Tryz.func125, Tryz.ntmps125
  go_wp2_with fail
  have hse := (Same.refl w).alloc (.cells #[] 101)
  generalize w.alloc (.cells #[] 101) = w0 at *
  refine (sFormulaOk_any A c L _ hz (hA.same hse)).mono ?_
  rw [F1.out]
  rintro en w1 ⟨rfl, hs1⟩
  go_wp2_with fail
  refine (l08Vars_any B e vars _ hzv ((hB.same hse).same hs1)).mono ?_
  rw [F2.out]
  rintro en w2 ⟨rfl, hs2⟩
  replace he := (he.same hs1).same hs2
  have S2 := (hse.trans hs1).trans hs2
  clear hse hs1 hs2
  go_wp2
  go_loopw [6, 7] (fun o i wr => ∃ (k : Nat) (V : List TFrac), k ≤ L.length ∧ i = .int .i64 k ∧ Hid (evalTo L vars k = (V, true)) ∧ OwnFrac wr w.heap.size o V ∧ Same w wr) (fun _ i _ => L.length - (intOf i).toNat)
  case atStart => exact ⟨0, [], Nat.zero_le _, rfl, rfl, he, S2⟩
  case round =>
    clear he
    obtain ⟨k, V, hk, rfl, HE, hown, hs⟩ := hrel
    by_cases hlt : k < L.length
    · obtain ⟨b, off, x, rfl, hc, HX, hbl⟩ := (hA.same hs).at_ hlt
      have hin := HI.out k (by omega) (by rw [HE.out])
      rw [HE.out] at hin
      have hnd := HN.out k x HX.out
      have hvk : V.length = k := hin.1
      obtain ⟨C, d, rfl⟩ := hown.form
      have HY := Lib.hid (fun (n d : Int) => evalTo_succ_yes (vars := vars) (V := V) (n := n) (d := d) HX.out HE.out)
      have HW := Lib.hid (evalTo_succ_no (vars := vars) (V := V) HX.out HE.out)
      obtain ⟨f0, f1, f2, f3, f4, f5⟩ := x
      have HC := Lib.hid (fun (wc : World) (hoc : OwnFrac wc w.heap.size (.slice C V.length d) V) (hbc : AtFrac wc B vars) => sValue_any (f0, f1, f2, f3, f4, f5) V vars C B d e wc (by rw [hvk]; exact hnd) h8.out hin.2 (OwnR.recs cFrac_len hoc) hbc)
      have hVl : V.length ≤ 1000000000 := by omega
      clear hA hin hnd hvk
      obtain ⟨r, hr⟩ : ∃ r, r = nodeVal (f0, f1, f2, f3, f4, f5) V vars := ⟨_, rfl⟩
      rw [← hr] at HC HW
      have HRR := Lib.hid hr
      clear hr
      obtain ⟨rn, rd, rb⟩ := r
      have c0 := hc 0 _ rfl
      have c1 := hc 1 _ rfl
      have c2 := hc 2 _ rfl
      have c3 := hc 3 _ rfl
      have c4 := hc 4 _ rfl
      have c5 := hc 5 _ rfl
      simp only [Nat.add_zero] at c0
      clear hc
      have hsN := hs
      go_wp2_with fail
      refine (HC.out _ hown (hB.same hsN)).mono ?_
      rintro en w3 ⟨rfl, hs3⟩
      have hss := hsN.trans hs3
      replace hown := OwnR.same hown hs3
      clear c0 c1 c2 c3 c4 c5 HC hs3 hsN
      dsimp only at HW ⊢
      have hx := BoxAt.new w3 101 [.int .i64 rn, .int .i64 rd]
      cases rb
      · have HE := Lib.hid (show evalAll L vars = ([], false) by rw [HV.out]; exact evalTo_stop (show k + 1 ≤ L.length by omega) (HW.out rfl))
        have hem := OwnR.rebase (OwnR.empty 101 2 cFrac (w3.alloc (.cells #[.int .i64 rn, .int .i64 rd] 101)) (Nat.le_refl _)) (hss.alloc (.cells #[.int .i64 rn, .int .i64 rd] 101)).size
        simp only [World.size_alloc] at hem
        go_wp2
        go_ret2
        exact ⟨_, _, by rw [HE.out]; rfl, by rw [HE.out]; exact hem, (hss.alloc _).alloc _⟩
      · have HY2 := Lib.hid (HY.out _ _ HRR.out.symm)
        replace hown := OwnR.alloc hown (.cells #[.int .i64 rn, .int .i64 rd] 101)
        replace hss := hss.alloc (.cells #[.int .i64 rn, .int .i64 rd] 101)
        go_wp2_with (at_builtin; refine wpList_of rfl fun _ hK => wp_appR _ (.tmp 39) (.tmp 41) 45 rfl (.agg #[.int .i64 0, .int .i64 0]) 16 Tryz.underlying45 Tryz.infoFrac rfl (by decide) cFrac_len cFrac_one w.heap.size _ V rfl (OwnR.alloc hown _) _ 1 (rn, rd) rfl (fun j u hu => by have h := (BoxAt.new (w3.alloc (.cells #[.int .i64 rn, .int .i64 rd] 101)) 101 [.int .i64 rn, .int .i64 rd]).cell j hu; rw [World.size_alloc] at h; exact h) hVl (by decide) (by have := hss.size; simp at this ⊢; omega) (fun v' w5 ho5 hup => hK _ _ ?_))
        have S5 := (hss.alloc (.cells #[.int .i64 rn, .int .i64 rd] 101)).upds hup (Nat.le_refl _)
        clear hup hx
        go_wp2
        go_roundw
        case rel => exact ⟨k + 1, _, hlt, by go_num, HY2.out, ho5, S5⟩
        case measure => simp [intOf]; omega
    · obtain rfl : k = L.length := by omega
      obtain ⟨C, d, rfl⟩ := hown.form
      have HE2 := Lib.hid (show evalAll L vars = (V, true) by rw [HV.out, HE.out])
      go_wp2
      go_ret2
      exact ⟨_, _, by rw [HE2.out]; rfl, by rw [HE2.out]; exact hown, hs⟩
end Go.Proofs.YtjfmknhnplefnaaGreat
end

section
/-
  Formulas evaluated (the program's side); the last value of a formula.
-/
namespace Go.Proofs.YtjfmknhnplefnaaGreat
open Go.RowKit
set_option linter.unusedVariables false
set_option linter.unusedSimpArgs false

theorem badFracE_any (f0 f1 : Int) (w : World) : Calls Tryz.prog 189 #[.agg #[.int .i64 f0, .int .i64 f1]] w fun e w' => e = .returned (.bool (!fracOk f0 f1)) ∧ Same w w' := by
  go_enter Tryz.func189, Tryz.ntmps189
  go_wp2_with fail
  refine (iFracOk_any f0 f1 _).mono ?_
  rintro e w1 ⟨rfl, hs1⟩
  go_wp2
  go_ret
  exact ⟨ret_bool (by simp), ((Same.refl w).alloc _).trans hs1⟩

set_option maxHeartbeats 400000 in
theorem indexBadE_any (A : Option Addr) (c : Nat) (L : List TFrac) (w : World) (hz : L.length ≤ 9223372036854775807) (hA : AtFrac w A L) :
    Calls Tryz.prog 123 #[.slice A L.length c, .func (.func 189) #[] #[]] w fun e w' => ∃ r : Int, e = .returned (.int .i64 r) ∧ Found (fun x => !fracOk x.1 x.2) L r ∧ Same w w' := by
  go_enter Tryz.func123, Tryz.ntmps123
  go_wp2
  go_loopw [8] (fun i wr => ∃ k : Nat, k ≤ L.length ∧ i = .int .i64 k ∧ Hid ((L.take k).all (fun x => !!fracOk x.1 x.2) = true) ∧ Same w wr) (fun i _ => L.length - (intOf i).toNat)
  case atStart => exact ⟨0, Nat.zero_le _, rfl, by simp [Hid], Same.refl _⟩
  case round =>
    obtain ⟨k, hk, rfl, hall, hs⟩ := hrel
    by_cases hlt : k < L.length
    · obtain ⟨b, off, x, rfl, hc, HX, _⟩ := (hA.same hs).at_ hlt
      clear hA
      obtain ⟨f0, f1⟩ := x
      have c0 := hc 0 _ rfl
      have c1 := hc 1 _ rfl
      simp only [Nat.add_zero] at c0
      clear hc

      go_wp2_with fail
      refine (badFracE_any f0 f1 _).mono ?_
      rintro e w1 ⟨rfl, hs1⟩
      have hss := hs.trans hs1
      clear hs hs1
      cases hp : !fracOk f0 f1
      · have HP := Lib.hid (all_take_succ hall.out HX.out (show (!!fracOk f0 f1) = true by rw [hp]; rfl))
        go_wp2
        go_roundw
        case rel => exact ⟨k + 1, hlt, by go_num, HP, hss⟩
        case measure => simp [intOf]; omega
      · have HP := Lib.hid (show Found (fun x => !fracOk x.1 x.2) L k from .inr ⟨k, _, rfl, HX.out, hp, hall.out⟩)
        go_wp2
        go_ret
        exact ⟨_, rfl, HP.out, hss⟩
    · have hl := hall.out
      rw [show k = L.length by omega, List.take_length] at hl
      have HP := Lib.hid hl
      clear hl hall
      go_wp2
      go_ret
      exact ⟨_, rfl, .inl ⟨rfl, HP.out⟩, hs⟩

theorem containsE_any (A : Option Addr) (c : Nat) (L : List TFrac) (w : World) (hz : L.length ≤ 1048576) (hA : AtFrac w A L) :
    Calls Tryz.prog 66 #[.slice A L.length c, .func (.func 189) #[] #[]] w fun e w' => e = .returned (.bool (!fracsOk L)) ∧ Same w w' := by
  go_enter Tryz.func66, Tryz.ntmps66
  go_wp2_with fail
  refine (indexBadE_any A c L _ (by omega) hA).mono ?_
  rintro e w1 ⟨r, rfl, hf, hs1⟩
  have HF := Lib.hid hf.any
  have HG := Lib.hid (show (!fracsOk L) = L.any (fun x => !fracOk x.1 x.2) by unfold fracsOk; rw [List.not_all_eq_any_not])
  clear hf
  go_wp2
  all_goals go_ret
  all_goals exact ⟨ret_bool (by rw [HG.out]; first | exact HF.out | (rw [← HF.out]; simp; omega)), hs1⟩

theorem badFracV_any (f0 f1 : Int) (w : World) : Calls Tryz.prog 67 #[.agg #[.int .i64 f0, .int .i64 f1]] w fun e w' => e = .returned (.bool (!fracOk f0 f1)) ∧ Same w w' := by
  go_enter Tryz.func67, Tryz.ntmps67
  go_wp2_with fail
  refine (iFracOk_any f0 f1 _).mono ?_
  rintro e w1 ⟨rfl, hs1⟩
  go_wp2
  go_ret
  exact ⟨ret_bool (by simp), ((Same.refl w).alloc _).trans hs1⟩

set_option maxHeartbeats 400000 in
theorem indexBadV_any (A : Option Addr) (c : Nat) (L : List TFrac) (w : World) (hz : L.length ≤ 9223372036854775807) (hA : AtFrac w A L) :
    Calls Tryz.prog 123 #[.slice A L.length c, .func (.func 67) #[] #[]] w fun e w' => ∃ r : Int, e = .returned (.int .i64 r) ∧ Found (fun x => !fracOk x.1 x.2) L r ∧ Same w w' := by
  go_enter Tryz.func123, Tryz.ntmps123
  go_wp2
  go_loopw [8] (fun i wr => ∃ k : Nat, k ≤ L.length ∧ i = .int .i64 k ∧ Hid ((L.take k).all (fun x => !!fracOk x.1 x.2) = true) ∧ Same w wr) (fun i _ => L.length - (intOf i).toNat)
  case atStart => exact ⟨0, Nat.zero_le _, rfl, by simp [Hid], Same.refl _⟩
  case round =>
    obtain ⟨k, hk, rfl, hall, hs⟩ := hrel
    by_cases hlt : k < L.length
    · obtain ⟨b, off, x, rfl, hc, HX, _⟩ := (hA.same hs).at_ hlt
      clear hA
      obtain ⟨f0, f1⟩ := x
      have c0 := hc 0 _ rfl
      have c1 := hc 1 _ rfl
      simp only [Nat.add_zero] at c0
      clear hc

      go_wp2_with fail
      refine (badFracV_any f0 f1 _).mono ?_
      rintro e w1 ⟨rfl, hs1⟩
      have hss := hs.trans hs1
      clear hs hs1
      cases hp : !fracOk f0 f1
      · have HP := Lib.hid (all_take_succ hall.out HX.out (show (!!fracOk f0 f1) = true by rw [hp]; rfl))
        go_wp2
        go_roundw
        case rel => exact ⟨k + 1, hlt, by go_num, HP, hss⟩
        case measure => simp [intOf]; omega
      · have HP := Lib.hid (show Found (fun x => !fracOk x.1 x.2) L k from .inr ⟨k, _, rfl, HX.out, hp, hall.out⟩)
        go_wp2
        go_ret
        exact ⟨_, rfl, HP.out, hss⟩
    · have hl := hall.out
      rw [show k = L.length by omega, List.take_length] at hl
      have HP := Lib.hid hl
      clear hl hall
      go_wp2
      go_ret
      exact ⟨_, rfl, .inl ⟨rfl, HP.out⟩, hs⟩

theorem containsV_any (A : Option Addr) (c : Nat) (L : List TFrac) (w : World) (hz : L.length ≤ 1048576) (hA : AtFrac w A L) :
    Calls Tryz.prog 66 #[.slice A L.length c, .func (.func 67) #[] #[]] w fun e w' => e = .returned (.bool (!fracsOk L)) ∧ Same w w' := by
  go_enter Tryz.func66, Tryz.ntmps66
  go_wp2_with fail
  refine (indexBadV_any A c L _ (by omega) hA).mono ?_
  rintro e w1 ⟨r, rfl, hf, hs1⟩
  have HF := Lib.hid hf.any
  have HG := Lib.hid (show (!fracsOk L) = L.any (fun x => !fracOk x.1 x.2) by unfold fracsOk; rw [List.not_all_eq_any_not])
  clear hf
  go_wp2
  all_goals go_ret
  all_goals exact ⟨ret_bool (by rw [HG.out]; first | exact HF.out | (rw [← HF.out]; simp; omega)), hs1⟩

set_option maxRecDepth 10000 in
set_option maxHeartbeats 4000000 in
theorem iEvalAll_any (A : Option Addr) (c : Nat) (L : List TNode) (B : Option Addr) (e : Nat) (vars : List TFrac) (w : World) (hz : L.length ≤ 1048576) (hzv : vars.length ≤ 1048576) (hA : AtNode w A L) (hB : AtFrac w B vars) :
    Calls Tryz.prog 163 #[.slice A L.length c, .slice B vars.length e] w (RetEval w L vars) := by
  cases f1 : formulaOk L
  · have HV := Lib.hid (evalAll_bad (vars := vars) (show (formulaOk L && varsOk vars) = false by rw [f1]; rfl))
    go_enter Tryz.func163, Tryz.ntmps163
    go_wp2_with fail
    refine (iFormulaOk_any A c L _ hz hA).mono ?_
    rw [f1]
    rintro en w1 ⟨rfl, hs1⟩
    go_wp2
    go_ret2
    exact ⟨_, _, by rw [HV.out]; rfl, by rw [HV.out]; exact OwnR.nil _ _ _ _ _, hs1⟩
  by_cases f8 : vars.length = 8
  case neg =>
    have HV := Lib.hid (evalAll_bad (L := L) (show (formulaOk L && varsOk vars) = false by rw [f1, varsOk, decide_eq_false f8]; simp))
    have g8 : ((vars.length : Int) != 8) = true := by simp; omega
    go_enter Tryz.func163, Tryz.ntmps163
    go_wp2_with fail
    refine (iFormulaOk_any A c L _ hz hA).mono ?_
    rw [f1]
    rintro en w1 ⟨rfl, hs1⟩
    go_wp2
    go_ret2
    exact ⟨_, _, by rw [HV.out]; rfl, by rw [HV.out]; exact OwnR.nil _ _ _ _ _, hs1⟩
  have g8 : ((vars.length : Int) != 8) = false := by simp; omega
  have HF := Lib.hid (show varsOk vars = fracsOk vars by unfold varsOk; rw [decide_eq_true f8]; simp)
  cases f2 : fracsOk vars
  · have HV := Lib.hid (evalAll_bad (L := L) (show (formulaOk L && varsOk vars) = false by rw [f1, HF.out, f2]; rfl))
    clear f8
    go_enter Tryz.func163, Tryz.ntmps163
    go_wp2_with fail
    refine (iFormulaOk_any A c L _ hz hA).mono ?_
    rw [f1]
    rintro en w1 ⟨rfl, hs1⟩
    go_wp2_with fail
    refine (containsE_any B e vars _ hzv (hB.same hs1)).mono ?_
    rw [f2]
    rintro en w2 ⟨rfl, hs2⟩
    go_wp2
    go_ret2
    exact ⟨_, _, by rw [HV.out]; rfl, by rw [HV.out]; exact OwnR.nil _ _ _ _ _, hs1.trans hs2⟩
  have f2' : varsOk vars = true := by rw [HF.out, f2]
  have F3 := Lib.hid f2
  clear f2 f8
  have f2 := f2'
  clear f2'
  have hlen := formula_len f1
  have HV := Lib.hid (evalAll_good (show (formulaOk L && varsOk vars) = true by rw [f1, f2]; rfl))
  have HN := Lib.hid (fun (k : Nat) (x : TNode) (hx : L[k]? = some x) => formula_at f1 hx)
  have HI := Lib.hid (evalTo_inv f1 f2)
  have h8 : Hid (vars.length = 8) := by have := f2; simp only [varsOk, Bool.and_eq_true, decide_eq_true_eq] at this; exact this.2
  have F1 := Lib.hid f1
  have F2 := Lib.hid f2
  clear f1 f2
  go_enter Tryz.func163, Tryz.ntmps163
  go_wp2_with fail
  refine (iFormulaOk_any A c L _ hz hA).mono ?_
  rw [F1.out]
  rintro en w1 ⟨rfl, hs1⟩
  go_wp2_with fail
  refine (containsE_any B e vars _ hzv (hB.same hs1)).mono ?_
  rw [F3.out]
  rintro en w2 ⟨rfl, hs2⟩
  have S2 := hs1.trans hs2
  have he := OwnR.rebase (OwnR.empty 101 2 cFrac w2 (Nat.le_refl _)) S2.size
  have S3 := S2.alloc (.cells #[] 101)
  clear hs1 hs2
  go_wp2
  go_loopw [6, 26] (fun o i wr => ∃ (k : Nat) (V : List TFrac), k ≤ L.length ∧ i = .int .i64 k ∧ Hid (evalTo L vars k = (V, true)) ∧ OwnFrac wr w.heap.size o V ∧ Same w wr) (fun _ i _ => L.length - (intOf i).toNat)
  case atStart => exact ⟨0, [], Nat.zero_le _, rfl, rfl, he, S3⟩
  case round =>
    clear he
    obtain ⟨k, V, hk, rfl, HE, hown, hs⟩ := hrel
    by_cases hlt : k < L.length
    · obtain ⟨b, off, x, rfl, hc, HX, hbl⟩ := (hA.same hs).at_ hlt
      have hin := HI.out k (by omega) (by rw [HE.out])
      rw [HE.out] at hin
      have hnd := HN.out k x HX.out
      have hvk : V.length = k := hin.1
      obtain ⟨C, d, rfl⟩ := hown.form
      have HY := Lib.hid (fun (n d : Int) => evalTo_succ_yes (vars := vars) (V := V) (n := n) (d := d) HX.out HE.out)
      have HW := Lib.hid (evalTo_succ_no (vars := vars) (V := V) HX.out HE.out)
      obtain ⟨f0, f1, f2, f3, f4, f5⟩ := x
      have HC := Lib.hid (fun (wc : World) (hoc : OwnFrac wc w.heap.size (.slice C V.length d) V) (hbc : AtFrac wc B vars) => iValue_any (f0, f1, f2, f3, f4, f5) V vars C B d e wc (by rw [hvk]; exact hnd) h8.out hin.2 (OwnR.recs cFrac_len hoc) hbc)
      have hVl : V.length ≤ 1000000000 := by omega
      clear hA hin hnd hvk
      obtain ⟨r, hr⟩ : ∃ r, r = nodeVal (f0, f1, f2, f3, f4, f5) V vars := ⟨_, rfl⟩
      rw [← hr] at HC HW
      have HRR := Lib.hid hr
      clear hr
      obtain ⟨rn, rd, rb⟩ := r
      have c0 := hc 0 _ rfl
      have c1 := hc 1 _ rfl
      have c2 := hc 2 _ rfl
      have c3 := hc 3 _ rfl
      have c4 := hc 4 _ rfl
      have c5 := hc 5 _ rfl
      simp only [Nat.add_zero] at c0
      clear hc
      have hsN := hs.alloc (.cells #[.int .i64 f0, .int .i64 f1, .int .i64 f2, .int .i64 f3, .int .i64 f4, .int .i64 f5] 191)
      replace hown := OwnR.alloc hown (.cells #[.int .i64 f0, .int .i64 f1, .int .i64 f2, .int .i64 f3, .int .i64 f4, .int .i64 f5] 191)
      go_wp2_with fail
      refine (HC.out _ hown (hB.same hsN)).mono ?_
      rintro en w3 ⟨rfl, hs3⟩
      have hss := hsN.trans hs3
      replace hown := OwnR.same hown hs3
      clear c0 c1 c2 c3 c4 c5 HC hs3 hsN
      dsimp only at HW ⊢
      have hx := BoxAt.new w3 101 [.int .i64 rn, .int .i64 rd]
      cases rb
      · have HE := Lib.hid (show evalAll L vars = ([], false) by rw [HV.out]; exact evalTo_stop (show k + 1 ≤ L.length by omega) (HW.out rfl))
        go_wp2
        go_ret2
        exact ⟨_, _, by rw [HE.out]; rfl, by rw [HE.out]; exact OwnR.nil _ _ _ _ _, hss.alloc _⟩
      · have HY2 := Lib.hid (HY.out _ _ HRR.out.symm)
        replace hown := OwnR.alloc hown (.cells #[.int .i64 rn, .int .i64 rd] 101)
        replace hss := hss.alloc (.cells #[.int .i64 rn, .int .i64 rd] 101)
        go_wp2_with (at_builtin; refine wpList_of rfl fun _ hK => wp_appR _ (.tmp 39) (.tmp 41) 45 rfl (.agg #[.int .i64 0, .int .i64 0]) 16 Tryz.underlying45 Tryz.infoFrac rfl (by decide) cFrac_len cFrac_one w.heap.size _ V rfl (OwnR.alloc hown _) _ 1 (rn, rd) rfl (fun j u hu => by have h := (BoxAt.new (w3.alloc (.cells #[.int .i64 rn, .int .i64 rd] 101)) 101 [.int .i64 rn, .int .i64 rd]).cell j hu; rw [World.size_alloc] at h; exact h) hVl (by decide) (by have := hss.size; simp at this ⊢; omega) (fun v' w5 ho5 hup => hK _ _ ?_))
        have S5 := (hss.alloc (.cells #[.int .i64 rn, .int .i64 rd] 101)).upds hup (Nat.le_refl _)
        clear hup hx
        go_wp2
        go_roundw
        case rel => exact ⟨k + 1, _, hlt, by go_num, HY2.out, ho5, S5⟩
        case measure => simp [intOf]; omega
    · obtain rfl : k = L.length := by omega
      obtain ⟨C, d, rfl⟩ := hown.form
      have HE2 := Lib.hid (show evalAll L vars = (V, true) by rw [HV.out, HE.out])
      go_wp2
      go_ret2
      exact ⟨_, _, by rw [HE2.out]; rfl, by rw [HE2.out]; exact hown, hs⟩
end Go.Proofs.YtjfmknhnplefnaaGreat
end

section
/-
  The last value of a formula, either side.
-/
namespace Go.Proofs.YtjfmknhnplefnaaGreat
open Go.RowKit
set_option linter.unusedVariables false
set_option linter.unusedSimpArgs false

theorem evalAll_len {L : List TNode} {vars : List TFrac} (h : (evalAll L vars).2 = true) : (evalAll L vars).1.length = L.length ∧ 1 ≤ L.length ∧ L.length ≤ 30 := by
  unfold evalAll at h ⊢
  split at h
  · rename_i hc
    rw [if_pos hc]
    rw [Bool.and_eq_true] at hc
    have hl := formula_len hc.1
    exact ⟨(evalTo_inv hc.1 hc.2 L.length (Nat.le_refl _) h).1, hl.1, hl.2⟩
  · cases h

set_option maxRecDepth 10000 in
set_option maxHeartbeats 2000000 in
theorem sEval_any (A : Option Addr) (c : Nat) (L : List TNode) (B : Option Addr) (e : Nat) (vars : List TFrac) (w : World) (hz : L.length ≤ 1048576) (hzv : vars.length ≤ 1048576) (hA : AtNode w A L) (hB : AtFrac w B vars) :
    Calls Tryz.prog 70 #[.slice A L.length c, .slice B vars.length e] w fun en w' => en = .returned (.tuple #[.agg #[.int .i64 (evalOf L vars).1, .int .i64 (evalOf L vars).2.1], .bool (evalOf L vars).2.2]) ∧ Same w w' := by
  have HR := Lib.hid (show evalOf L vars = if (evalAll L vars).2 then yesF (fr (evalAll L vars).1 ((L.length : Int) - 1)) else (0, 0, false) from rfl)
  have HL := Lib.hid (evalAll_len (L := L) (vars := vars))
  go_enter Tryz.func70, Tryz.ntmps70
  go_wp2_with fail
  have h1 : BoxAt (w.alloc (.cells #[.int .i64 0, .int .i64 0] 101)) (w.heap.size) 101 [.int .i64 0, .int .i64 0] := by simpa using (BoxAt.new w 101 [.int .i64 0, .int .i64 0])
  have hs0 := (Same.alloc (Same.refl w) (.cells #[.int .i64 0, .int .i64 0] 101))
  generalize (w.alloc (.cells #[.int .i64 0, .int .i64 0] 101)) = w0 at *
  refine (sEvalAll_any A c L B e vars _ hz hzv (hA.same hs0) (hB.same hs0)).mono ?_
  unfold RetEval
  obtain ⟨V, hV⟩ : ∃ V, V = (evalAll L vars).1 := ⟨_, rfl⟩
  obtain ⟨q, hq⟩ : ∃ q, q = (evalAll L vars).2 := ⟨_, rfl⟩
  rw [← hV, ← hq] at HR HL ⊢
  clear hV hq
  rintro en w1 ⟨C, d, rfl, hown, hs1⟩
  replace h1 := h1.same hs1
  have S1 := hs0.trans hs1
  clear hs0 hs1
  have x0 := h1.cell 0 rfl
  have x1 := h1.cell 1 rfl
  have xf0 := h1.frozen 0
  have xf1 := h1.frozen 1
  have xL := h1.lt
  cases q
  · have HV := Lib.hid (show evalOf L vars = (0, 0, false) by rw [HR.out]; rfl)
    go_wp2
    have h9 := (h1.set 0 (.int .i64 0)).set 1 (.int .i64 0)
    have S9 := (S1.setCell (p := ⟨w.heap.size, 0, none⟩) (Nat.le_refl _) (.int .i64 0)).setCell (p := ⟨w.heap.size, 1, none⟩) (Nat.le_refl _) (.int .i64 0)
    generalize (w1.setCell ⟨w.heap.size, 0, none⟩ (.int .i64 0)).setCell ⟨w.heap.size, 1, none⟩ (.int .i64 0) = w9 at *
    have z0 := h9.cell 0 rfl
    have z1 := h9.cell 1 rfl
    exact bodyPost_ret (v := .tuple #[.agg #[.int .i64 0, .int .i64 0], .bool false]) (by simp [results, Tryz.results70, go_sem, z0, z1]) rfl ⟨by rw [HV.out], S9⟩
  · have hl := HL.out rfl
    have hvl : V.length ≤ 30 := by omega
    have hrec := OwnR.recs cFrac_len hown
    obtain ⟨m, hm⟩ : ∃ m, V.length = m + 1 := ⟨V.length - 1, by omega⟩
    obtain ⟨b, off, x, rfl, hc, HX, hbl⟩ := hrec.at_ (k := m) (by omega)
    obtain ⟨f0, f1⟩ := x
    have HV := Lib.hid (show evalOf L vars = (f0, f1, true) by rw [HR.out, if_pos rfl, show (L.length : Int) - 1 = (m : Int) by omega, fr_some HX.out]; rfl)
    clear hrec hown HX HL
    have c0 := hc 0 _ rfl
    have c1 := hc 1 _ rfl
    simp only [Nat.add_zero] at c0
    clear hc
    have hmi : (V.length : Int) - 1 = (m : Int) := by omega
    have hmv : m < V.length := by omega
    clear hm hl
    go_wp2
    have h9 := (h1.set 0 (.int .i64 f0)).set 1 (.int .i64 f1)
    have S9 := (S1.setCell (p := ⟨w.heap.size, 0, none⟩) (Nat.le_refl _) (.int .i64 f0)).setCell (p := ⟨w.heap.size, 1, none⟩) (Nat.le_refl _) (.int .i64 f1)
    generalize (w1.setCell ⟨w.heap.size, 0, none⟩ (.int .i64 f0)).setCell ⟨w.heap.size, 1, none⟩ (.int .i64 f1) = w9 at *
    have z0 := h9.cell 0 rfl
    have z1 := h9.cell 1 rfl
    exact bodyPost_ret (v := .tuple #[.agg #[.int .i64 f0, .int .i64 f1], .bool true]) (by simp [results, Tryz.results70, go_sem, z0, z1]) rfl ⟨by rw [HV.out], S9⟩

set_option maxRecDepth 10000 in
set_option maxHeartbeats 2000000 in
theorem iEval_any (A : Option Addr) (c : Nat) (L : List TNode) (B : Option Addr) (e : Nat) (vars : List TFrac) (w : World) (hz : L.length ≤ 1048576) (hzv : vars.length ≤ 1048576) (hA : AtNode w A L) (hB : AtFrac w B vars) :
    Calls Tryz.prog 106 #[.slice A L.length c, .slice B vars.length e] w fun en w' => en = .returned (.tuple #[.agg #[.int .i64 (evalOf L vars).1, .int .i64 (evalOf L vars).2.1], .bool (evalOf L vars).2.2]) ∧ Same w w' := by
  have HR := Lib.hid (show evalOf L vars = if (evalAll L vars).2 then yesF (fr (evalAll L vars).1 ((L.length : Int) - 1)) else (0, 0, false) from rfl)
  have HL := Lib.hid (evalAll_len (L := L) (vars := vars))
  go_enter Tryz.func106, Tryz.ntmps106
  go_wp2_with fail
  have h1 : BoxAt (w.alloc (.cells #[.int .i64 0, .int .i64 0] 101)) (w.heap.size) 101 [.int .i64 0, .int .i64 0] := by simpa using (BoxAt.new w 101 [.int .i64 0, .int .i64 0])
  have hs0 := (Same.alloc (Same.refl w) (.cells #[.int .i64 0, .int .i64 0] 101))
  generalize (w.alloc (.cells #[.int .i64 0, .int .i64 0] 101)) = w0 at *
  refine (iEvalAll_any A c L B e vars _ hz hzv (hA.same hs0) (hB.same hs0)).mono ?_
  unfold RetEval
  obtain ⟨V, hV⟩ : ∃ V, V = (evalAll L vars).1 := ⟨_, rfl⟩
  obtain ⟨q, hq⟩ : ∃ q, q = (evalAll L vars).2 := ⟨_, rfl⟩
  rw [← hV, ← hq] at HR HL ⊢
  clear hV hq
  rintro en w1 ⟨C, d, rfl, hown, hs1⟩
  replace h1 := h1.same hs1
  have S1 := hs0.trans hs1
  clear hs0 hs1
  have x0 := h1.cell 0 rfl
  have x1 := h1.cell 1 rfl
  have xf0 := h1.frozen 0
  have xf1 := h1.frozen 1
  have xL := h1.lt
  cases q
  · have HV := Lib.hid (show evalOf L vars = (0, 0, false) by rw [HR.out]; rfl)
    go_wp2
    have h9 := (h1.set 0 (.int .i64 0)).set 1 (.int .i64 0)
    have S9 := (S1.setCell (p := ⟨w.heap.size, 0, none⟩) (Nat.le_refl _) (.int .i64 0)).setCell (p := ⟨w.heap.size, 1, none⟩) (Nat.le_refl _) (.int .i64 0)
    generalize (w1.setCell ⟨w.heap.size, 0, none⟩ (.int .i64 0)).setCell ⟨w.heap.size, 1, none⟩ (.int .i64 0) = w9 at *
    have z0 := h9.cell 0 rfl
    have z1 := h9.cell 1 rfl
    exact bodyPost_ret (v := .tuple #[.agg #[.int .i64 0, .int .i64 0], .bool false]) (by simp [results, Tryz.results106, go_sem, z0, z1]) rfl ⟨by rw [HV.out], S9⟩
  · have hl := HL.out rfl
    have hvl : V.length ≤ 30 := by omega
    have hrec := OwnR.recs cFrac_len hown
    obtain ⟨m, hm⟩ : ∃ m, V.length = m + 1 := ⟨V.length - 1, by omega⟩
    obtain ⟨b, off, x, rfl, hc, HX, hbl⟩ := hrec.at_ (k := m) (by omega)
    obtain ⟨f0, f1⟩ := x
    have HV := Lib.hid (show evalOf L vars = (f0, f1, true) by rw [HR.out, if_pos rfl, show (L.length : Int) - 1 = (m : Int) by omega, fr_some HX.out]; rfl)
    clear hrec hown HX HL
    have c0 := hc 0 _ rfl
    have c1 := hc 1 _ rfl
    simp only [Nat.add_zero] at c0
    clear hc
    have hmi : (V.length : Int) - 1 = (m : Int) := by omega
    have hmv : m < V.length := by omega
    clear hm hl
    go_wp2
    have h9 := (h1.set 0 (.int .i64 f0)).set 1 (.int .i64 f1)
    have S9 := (S1.setCell (p := ⟨w.heap.size, 0, none⟩) (Nat.le_refl _) (.int .i64 f0)).setCell (p := ⟨w.heap.size, 1, none⟩) (Nat.le_refl _) (.int .i64 f1)
    generalize (w1.setCell ⟨w.heap.size, 0, none⟩ (.int .i64 f0)).setCell ⟨w.heap.size, 1, none⟩ (.int .i64 f1) = w9 at *
    have z0 := h9.cell 0 rfl
    have z1 := h9.cell 1 rfl
    exact bodyPost_ret (v := .tuple #[.agg #[.int .i64 f0, .int .i64 f1], .bool true]) (by simp [results, Tryz.results106, go_sem, z0, z1]) rfl ⟨by rw [HV.out], S9⟩
end Go.Proofs.YtjfmknhnplefnaaGreat
end

