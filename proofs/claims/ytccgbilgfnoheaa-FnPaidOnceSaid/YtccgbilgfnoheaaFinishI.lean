/-
  The program's Finish.
-/
import Derived.Test.YtccgbilgfnoheaaFinish
import Derived.Deep.LoopGhost
import Derived.Deep.Cut
import Derived.Deep.CutRange
namespace Go.Proofs.Ytccgbilgfnoheaa
open Go.RowKit
set_option linter.unusedVariables false
set_option linter.unnecessarySimpa false

theorem wide_ok {K C : List Int} (h : bankOk K C = true) : Wide K := by
  intro x hx
  obtain ⟨a, b, c⟩ := bankOk_iff.1 h
  obtain ⟨i, hi, rfl⟩ := List.mem_iff_getElem.1 hx
  have := (c i K[i] (C[i]'(by omega)) (List.getElem?_eq_getElem hi) (List.getElem?_eq_getElem (by omega))).1
  exact WalkArith.wf_i64 (by omega)
/-- A run and a bank within their bounds. -/
theorem ok_len {m : Int} {L : List TItem} {K C : List Int} (h1 : runOk m L = true) (h2 : bankOk K C = true) : L.length ≤ 40 ∧ K.length ≤ 2000 ∧ C.length ≤ 2000 := by
  have a := (runOk_and h1).2.2
  have b := bankOk_iff.1 h2
  omega
/-- The loop's state. -/
structure FinSt (w0 w : World) (gr gb : Nat) (m : Int) (F : List TItem × List Int × List Int) (k : Nat) (b : Bool) (L : List TItem) (K C : List Int) (ρ : RBRes) : Prop where
  st : SendSt w0 w w0.heap.size gr gb m L K C ρ
  okR : runOk m L = true
  okB : bankOk K C = true
  goal : sent m L K C = F
  more : b = true → opens L + 1 ≤ k
  done : b = false → sendOk m L K C = false

set_option maxRecDepth 100000 in
set_option maxHeartbeats 4000000 in
theorem iFinish_any (m : Int) (A : Option Addr) (c : Nat) (L : List TItem) (B : Option Addr) (d : Nat) (K : List Int) (D : Option Addr) (f : Nat) (C : List Int) (w : World)
    (hz : L.length ≤ 1000000000) (hcap : L.length ≤ c) (hA : AtItem w A L) (hzK : K.length ≤ 900000000) (hB : IntsAt w B K) (hwK : Wide K) (hzC : C.length ≤ 900000000) (hD : IntsAt w D C) :
    Calls Try.prog 22 #[.agg #[.int .i64 m, .slice A L.length c], .agg #[.slice B K.length d, .slice D C.length f]] w (RetRB w m (finL m L K C) (finK m L K C) (finC m L K C)) := by
  have hz' : L.length ≤ 9223372036854775807 := by omega
  have HWK := Lib.hid hwK
  clear hwK
  go_enter Try.func22, Try.ntmps22
  go_upto_region 1 with (fail)
  have h1 : BoxAt ((((w.alloc (.cells #[.int .i64 m, .slice A L.length c] 26)).alloc (.cells #[.slice B K.length d, .slice D C.length f] 29)).alloc (.cells #[.int .i64 0, .slice none 0 0] 26)).alloc (.cells #[.slice none 0 0, .slice none 0 0] 29)) (w.heap.size) 26 [.int .i64 m, .slice A L.length c] := by simpa using (BoxAt.alloc (BoxAt.alloc (BoxAt.alloc (BoxAt.new w 26 [.int .i64 m, .slice A L.length c]) (.cells #[.slice B K.length d, .slice D C.length f] 29)) (.cells #[.int .i64 0, .slice none 0 0] 26)) (.cells #[.slice none 0 0, .slice none 0 0] 29))
  have h2 : BoxAt ((((w.alloc (.cells #[.int .i64 m, .slice A L.length c] 26)).alloc (.cells #[.slice B K.length d, .slice D C.length f] 29)).alloc (.cells #[.int .i64 0, .slice none 0 0] 26)).alloc (.cells #[.slice none 0 0, .slice none 0 0] 29)) (w.heap.size + 1) 29 [.slice B K.length d, .slice D C.length f] := by simpa using (BoxAt.alloc (BoxAt.alloc (BoxAt.new (w.alloc (.cells #[.int .i64 m, .slice A L.length c] 26)) 29 [.slice B K.length d, .slice D C.length f]) (.cells #[.int .i64 0, .slice none 0 0] 26)) (.cells #[.slice none 0 0, .slice none 0 0] 29))
  have h3 : BoxAt ((((w.alloc (.cells #[.int .i64 m, .slice A L.length c] 26)).alloc (.cells #[.slice B K.length d, .slice D C.length f] 29)).alloc (.cells #[.int .i64 0, .slice none 0 0] 26)).alloc (.cells #[.slice none 0 0, .slice none 0 0] 29)) (w.heap.size + 1 + 1) 26 [.int .i64 0, .slice none 0 0] := by simpa using (BoxAt.alloc (BoxAt.new ((w.alloc (.cells #[.int .i64 m, .slice A L.length c] 26)).alloc (.cells #[.slice B K.length d, .slice D C.length f] 29)) 26 [.int .i64 0, .slice none 0 0]) (.cells #[.slice none 0 0, .slice none 0 0] 29))
  have h4 : BoxAt ((((w.alloc (.cells #[.int .i64 m, .slice A L.length c] 26)).alloc (.cells #[.slice B K.length d, .slice D C.length f] 29)).alloc (.cells #[.int .i64 0, .slice none 0 0] 26)).alloc (.cells #[.slice none 0 0, .slice none 0 0] 29)) (w.heap.size + 1 + 1 + 1) 29 [.slice none 0 0, .slice none 0 0] := by simpa using (BoxAt.new (((w.alloc (.cells #[.int .i64 m, .slice A L.length c] 26)).alloc (.cells #[.slice B K.length d, .slice D C.length f] 29)).alloc (.cells #[.int .i64 0, .slice none 0 0] 26)) 29 [.slice none 0 0, .slice none 0 0])
  have hs0 := (Same.alloc (Same.alloc (Same.alloc (Same.alloc (Same.refl w) (.cells #[.int .i64 m, .slice A L.length c] 26)) (.cells #[.slice B K.length d, .slice D C.length f] 29)) (.cells #[.int .i64 0, .slice none 0 0] 26)) (.cells #[.slice none 0 0, .slice none 0 0] 29))
  generalize ((((w.alloc (.cells #[.int .i64 m, .slice A L.length c] 26)).alloc (.cells #[.slice B K.length d, .slice D C.length f] 29)).alloc (.cells #[.int .i64 0, .slice none 0 0] 26)).alloc (.cells #[.slice none 0 0, .slice none 0 0] 29)) = w0 at *
  have n0 := hs0.size
  have n4 := h4.lt
  go_cut [6, 7] from 9 to 12 (fun t6 t7 wx => ∃ (gr gb : Nat) (ρ : RBRes), t6 = .pointer (some ⟨gr, 0, none⟩) ∧ t7 = .pointer (some ⟨gb, 0, none⟩) ∧ SendSt w0 wx w0.heap.size gr gb m L K C ρ)
  case first =>
    refine wp_region_fill [6, 7, 9, 10, 11, 12] (by kernel_rfl) (by kernel_rfl) (fun l t x1 => CPInv w0 (.agg #[.int .i64 m, .slice A L.length c]) (.agg #[.slice B K.length d, .slice D C.length f]) m L K C (l 0) (l 1) (l 2) (l 3) (l 4) (l 5) (l 6) (l 7) (t 9) (t 10) (t 11) (t 12) (t 6) (t 7) x1) ?_ ?_ ?_
    · exact CPInv.start (Same.refl _).drew
    · refine ⟨⟨by rfl, ?_⟩, ⟨by rfl, ?_⟩, ⟨by rfl, ?_⟩, ⟨by rfl, ?_⟩, ⟨by rfl, ?_⟩, ⟨by rfl, ?_⟩, ⟨by rfl, ?_⟩, ⟨by rfl, ?_⟩, trivial⟩
      all_goals intro l t x1 K' hK i hl hd
      all_goals simp [Region.binds] at hd
      all_goals (try dsimp only at i)
      all_goals simp only [fill, List.foldl, Act.put, List.setIfInBounds_toArray, List.set_cons_zero, List.set_cons_succ]
      · have c0 := (h1.same i.same).cell 0 rfl
        have c1 := (h1.same i.same).cell 1 rfl
        go_simp
        have H := hK (updT t 9 (.agg #[.int .i64 m, .slice A L.length c])) _ (i.s_lr)
        simp only [fill, List.foldl, Act.put, List.setIfInBounds_toArray, List.set_cons_zero, List.set_cons_succ, updT, Nat.reduceEqDiff, reduceIte] at H
        exact H
      · have e := i.hlr hd
        go_simp
        go_at_call 53
        refine (copyRun_any m A c L _ hz ((hA.same hs0).same i.same)).mono ?_
        rintro e w2 ⟨A2, c2, rfl, ho, hs2⟩
        have H := hK (updT t 10 (.agg #[.int .i64 m, .slice A2 L.length c2])) _ (i.s_cr hl ho hs2)
        simp only [fill, List.foldl, Act.put, List.setIfInBounds_toArray, List.set_cons_zero, List.set_cons_succ, updT, Nat.reduceEqDiff, reduceIte, e] at H
        dsimp only
        exact H
      · have c0 := (h2.same i.same).cell 0 rfl
        have c1 := (h2.same i.same).cell 1 rfl
        go_simp
        have H := hK (updT t 11 (.agg #[.slice B K.length d, .slice D C.length f])) _ (i.s_lb)
        simp only [fill, List.foldl, Act.put, List.setIfInBounds_toArray, List.set_cons_zero, List.set_cons_succ, updT, Nat.reduceEqDiff, reduceIte] at H
        exact H
      · have hlx : l 2 = true := by go_split_ands; assumption
        have e := i.hlb hlx
        go_simp
        go_at_call 54
        refine (copyBank_any B d K D f C _ (by omega) ((hB.same hs0).same i.same) (by omega) ((hD.same hs0).same i.same)).mono ?_
        rintro e w2 ⟨B2, d2, D2, f2, rfl, ho, hp, spx, hs2⟩
        have H := hK (updT t 12 (.agg #[.slice B2 K.length d2, .slice D2 C.length f2])) _ (i.s_cb hl ho hp spx hs2)
        simp only [fill, List.foldl, Act.put, List.setIfInBounds_toArray, List.set_cons_zero, List.set_cons_succ, updT, Nat.reduceEqDiff, reduceIte, e] at H
        dsimp only
        exact H
      · go_simp
        have H := hK (updT t 6 (.pointer (some ⟨x1.heap.size, 0, none⟩))) _ (i.s_ar hl)
        simp only [fill, List.foldl, Act.put, List.setIfInBounds_toArray, List.set_cons_zero, List.set_cons_succ, updT, Nat.reduceEqDiff, reduceIte] at H
        exact H
      · go_simp
        have H := hK (updT t 7 (.pointer (some ⟨x1.heap.size, 0, none⟩))) _ (i.s_ab hl)
        simp only [fill, List.foldl, Act.put, List.setIfInBounds_toArray, List.set_cons_zero, List.set_cons_succ, updT, Nat.reduceEqDiff, reduceIte] at H
        exact H
      · have hc : l 1 = true := by go_split_ands; assumption
        have ha : l 4 = true := by go_split_ands; assumption
        obtain ⟨A2, c2, e, _⟩ := i.hcr hc
        obtain ⟨g, p1, p2, p3, p4⟩ := i.har ha
        replace p4 := p4 hl
        have kz := Lib.hid e
        have f0 := p4.frozen 0
        have f1 := p4.frozen 1
        have c0 := p4.cell 0 rfl
        have c1 := p4.cell 1 rfl
        go_simp
        have H := hK (t) _ (i.s_sr hc ha p1 hl kz.out)
        simp only [fill, List.foldl, Act.put, List.setIfInBounds_toArray, List.set_cons_zero, List.set_cons_succ, e, p1] at H
        exact H
      · have hc : l 3 = true := by go_split_ands; assumption
        have ha : l 5 = true := by go_split_ands; assumption
        obtain ⟨B2, d2, D2, f2, e, _⟩ := i.hcb hc
        obtain ⟨g, p1, p2, p3, p4⟩ := i.hab ha
        replace p4 := p4 hl
        have kz := Lib.hid e
        have f0 := p4.frozen 0
        have f1 := p4.frozen 1
        have c0 := p4.cell 0 rfl
        have c1 := p4.cell 1 rfl
        go_simp
        have H := hK (t) _ (i.s_sb hc ha p1 hl kz.out)
        simp only [fill, List.foldl, Act.put, List.setIfInBounds_toArray, List.set_cons_zero, List.set_cons_succ, e, p1] at H
        exact H
    · intro l t x1 hl i
      have H := CPInv.fin i (hl 1 (by decide)) (hl 3 (by decide)) (hl 4 (by decide)) (hl 5 (by decide)) (hl 6 (by decide)) (hl 7 (by decide))
      simp only [fill, List.foldl, Act.put, List.setIfInBounds_toArray, List.set_cons_zero, List.set_cons_succ]
      generalize t 6 = u6 at H ⊢
      generalize t 7 = u7 at H ⊢
      clear i hl
      go_wp2_with fail
      go_meet
      exact H
  case rest =>
    obtain ⟨gr, gb, ⟨A1, c1, B1, d1, D1, f1⟩, rfl, rfl, st⟩ := hcut
    generalize wc = w4 at *
    have a10 := (h1.same st.same).cell 0 rfl
    have a11 := (h1.same st.same).cell 1 rfl
    go_wp2_with fail
    refine (iRunOk_any m A c L _ hz' hcap ((hA.same hs0).same st.same)).mono ?_
    rintro e w5 ⟨rfl, hs5⟩
    replace st := st.world hs5
    clear hs5 a10 a11
    cases m1 : runOk m L
    · have HN := Lib.hid (fin_no (show finOk m L K C = false by rw [finOk, m1]; rfl))
      have S6 := st.same
      clear m1
      generalize w5 = w6 at *
      have hr : BoxAt w6 gr 26 [.int .i64 m, .slice A1 L.length c1] := st.run
      have hb : BoxAt w6 gb 29 [.slice B1 K.length d1, .slice D1 C.length f1] := st.bank
      have oi : OwnItem w6 w0.heap.size (.slice A1 L.length c1) L := st.own.it
      have ok : OwnI w6 w0.heap.size (.slice B1 K.length d1) K := st.own.ks
      have oc : OwnI w6 w0.heap.size (.slice D1 C.length f1) C := st.own.cs
      have x1 := st.l1
      have x2 := st.l2
      have s0 := hr.cell 0 rfl
      have s1 := hr.cell 1 rfl
      have s2 := hb.cell 0 rfl
      have s3 := hb.cell 1 rfl
      have nlt1 := hr.lt
      have nlt2 := hb.lt
      have nW := Same.size S6
      have kr := h3.same S6
      have kt := h4.same S6
      have kr0 := kr.cell 0 rfl
      have kr1 := kr.cell 1 rfl
      have kt0 := kt.cell 0 rfl
      have kt1 := kt.cell 1 rfl
      have krf0 := kr.frozen 0
      have krf1 := kr.frozen 1
      have ktf0 := kt.frozen 0
      have ktf1 := kt.frozen 1
      have ppa := (hr.other (k := (w.heap.size + 1 + 1)) (j := 0) (.int .i64 m) (by omega)).other (k := (w.heap.size + 1 + 1)) (j := 1) (.slice A1 L.length c1) (by omega)
      have pa := BoxAt.same ppa (Same.refl _).drew
      have qa := BoxAt.same ((ppa.other (k := (w.heap.size + 1 + 1 + 1)) (j := 0) (.slice B1 K.length d1) (by omega)).other (k := (w.heap.size + 1 + 1 + 1)) (j := 1) (.slice D1 C.length f1) (by omega)) (Same.refl _).drew
      have ua := BoxAt.same hr (Same.refl _).drew
      have ppb := (hb.other (k := (w.heap.size + 1 + 1)) (j := 0) (.int .i64 m) (by omega)).other (k := (w.heap.size + 1 + 1)) (j := 1) (.slice A1 L.length c1) (by omega)
      have pb := BoxAt.same ppb (Same.refl _).drew
      have qb := BoxAt.same ((ppb.other (k := (w.heap.size + 1 + 1 + 1)) (j := 0) (.slice B1 K.length d1) (by omega)).other (k := (w.heap.size + 1 + 1 + 1)) (j := 1) (.slice D1 C.length f1) (by omega)) (Same.refl _).drew
      have ub := BoxAt.same hb (Same.refl _).drew
      have pa0 := pa.cell 0 rfl
      have pa1 := pa.cell 1 rfl
      have pb0 := pb.cell 0 rfl
      have pb1 := pb.cell 1 rfl
      have qa0 := qa.cell 0 rfl
      have qa1 := qa.cell 1 rfl
      have qb0 := qb.cell 0 rfl
      have qb1 := qb.cell 1 rfl
      have ua0 := ua.cell 0 rfl
      have ua1 := ua.cell 1 rfl
      have ub0 := ub.cell 0 rfl
      have ub1 := ub.cell 1 rfl
      go_wp2_with fail
      go_region_held3 (fun x => x.cell? ⟨gr, 0, none⟩ = some (.int .i64 m) ∧ x.cell? ⟨gr, 1, none⟩ = some (.slice A1 L.length c1) ∧ x.cell? ⟨gb, 0, none⟩ = some (.slice B1 K.length d1) ∧ x.cell? ⟨gb, 1, none⟩ = some (.slice D1 C.length f1))
        (first | (with_reducible exact ⟨qa0, qa1, qb0, qb1⟩) | (with_reducible exact ⟨pa0, pa1, pb0, pb1⟩) | (with_reducible exact ⟨ua0, ua1, ub0, ub1⟩))
        (fail)
      have F := laid4 (w := w) kr kt (by omega) (base := w0.heap.size) (by omega) (by omega) (by omega) (by omega) ((hs0.trans S6).trans (Same.refl _)) oi ok oc (.int .i64 m) (.slice A1 L.length c1) (.slice B1 K.length d1) (.slice D1 C.length f1)
      clear kr kt s0 s1 s2 s3 kr0 kr1 kt0 kt1 krf0 krf1 ktf0 ktf1 ppa ppb ua ub ua0 ua1 ub0 ub1 pa pb qa qb pa0 pa1 pb0 pb1 qa0 qa1 qb0 qb1
      have F0 := F.run.cell 0 rfl
      have F1 := F.run.cell 1 rfl
      have F2 := F.bank.cell 0 rfl
      have F3 := F.bank.cell 1 rfl
      unfold lay4 at F0 F1 F2 F3
      go_wp2
      show bodyPost _ _ _ _ _ _
      rw [HN.out.1, HN.out.2.1, HN.out.2.2]
      exact bodyPost_ret (v := .tuple #[.agg #[(.int .i64 m), (.slice A1 L.length c1)], .agg #[(.slice B1 K.length d1), (.slice D1 C.length f1)]]) (by simp [results, Try.results22, go_sem, F0, F1, F2, F3]) rfl ⟨_, _, _, _, _, _, rfl, F.items.rebase n0, F.keys.base n0, F.cents.base n0, st.own.s1, st.own.s2, st.own.s3, F.same.drew⟩
    · have a20 := (h2.same st.same).cell 0 rfl
      have a21 := (h2.same st.same).cell 1 rfl
      go_wp2_with fail
      refine (iBankOk_any B D d f K C _ (by omega) (by omega) HWK.out ((hB.same hs0).same st.same) ((hD.same hs0).same st.same)).mono ?_
      rintro e w7 ⟨rfl, hs7⟩
      replace st := st.world hs7
      clear hs7 a20 a21
      cases m2 : bankOk K C
      · have HN := Lib.hid (fin_no (show finOk m L K C = false by rw [finOk, m1, m2]; rfl))
        have S6 := st.same
        clear m1 m2
        generalize w7 = w6 at *
        have hr : BoxAt w6 gr 26 [.int .i64 m, .slice A1 L.length c1] := st.run
        have hb : BoxAt w6 gb 29 [.slice B1 K.length d1, .slice D1 C.length f1] := st.bank
        have oi : OwnItem w6 w0.heap.size (.slice A1 L.length c1) L := st.own.it
        have ok : OwnI w6 w0.heap.size (.slice B1 K.length d1) K := st.own.ks
        have oc : OwnI w6 w0.heap.size (.slice D1 C.length f1) C := st.own.cs
        have x1 := st.l1
        have x2 := st.l2
        have s0 := hr.cell 0 rfl
        have s1 := hr.cell 1 rfl
        have s2 := hb.cell 0 rfl
        have s3 := hb.cell 1 rfl
        have nlt1 := hr.lt
        have nlt2 := hb.lt
        have nW := Same.size S6
        have kr := h3.same S6
        have kt := h4.same S6
        have kr0 := kr.cell 0 rfl
        have kr1 := kr.cell 1 rfl
        have kt0 := kt.cell 0 rfl
        have kt1 := kt.cell 1 rfl
        have krf0 := kr.frozen 0
        have krf1 := kr.frozen 1
        have ktf0 := kt.frozen 0
        have ktf1 := kt.frozen 1
        have ppa := (hr.other (k := (w.heap.size + 1 + 1)) (j := 0) (.int .i64 m) (by omega)).other (k := (w.heap.size + 1 + 1)) (j := 1) (.slice A1 L.length c1) (by omega)
        have pa := BoxAt.same ppa (Same.refl _).drew
        have qa := BoxAt.same ((ppa.other (k := (w.heap.size + 1 + 1 + 1)) (j := 0) (.slice B1 K.length d1) (by omega)).other (k := (w.heap.size + 1 + 1 + 1)) (j := 1) (.slice D1 C.length f1) (by omega)) (Same.refl _).drew
        have ua := BoxAt.same hr (Same.refl _).drew
        have ppb := (hb.other (k := (w.heap.size + 1 + 1)) (j := 0) (.int .i64 m) (by omega)).other (k := (w.heap.size + 1 + 1)) (j := 1) (.slice A1 L.length c1) (by omega)
        have pb := BoxAt.same ppb (Same.refl _).drew
        have qb := BoxAt.same ((ppb.other (k := (w.heap.size + 1 + 1 + 1)) (j := 0) (.slice B1 K.length d1) (by omega)).other (k := (w.heap.size + 1 + 1 + 1)) (j := 1) (.slice D1 C.length f1) (by omega)) (Same.refl _).drew
        have ub := BoxAt.same hb (Same.refl _).drew
        have pa0 := pa.cell 0 rfl
        have pa1 := pa.cell 1 rfl
        have pb0 := pb.cell 0 rfl
        have pb1 := pb.cell 1 rfl
        have qa0 := qa.cell 0 rfl
        have qa1 := qa.cell 1 rfl
        have qb0 := qb.cell 0 rfl
        have qb1 := qb.cell 1 rfl
        have ua0 := ua.cell 0 rfl
        have ua1 := ua.cell 1 rfl
        have ub0 := ub.cell 0 rfl
        have ub1 := ub.cell 1 rfl
        go_wp2_with fail
        go_region_held3 (fun x => x.cell? ⟨gr, 0, none⟩ = some (.int .i64 m) ∧ x.cell? ⟨gr, 1, none⟩ = some (.slice A1 L.length c1) ∧ x.cell? ⟨gb, 0, none⟩ = some (.slice B1 K.length d1) ∧ x.cell? ⟨gb, 1, none⟩ = some (.slice D1 C.length f1))
          (first | (with_reducible exact ⟨qa0, qa1, qb0, qb1⟩) | (with_reducible exact ⟨pa0, pa1, pb0, pb1⟩) | (with_reducible exact ⟨ua0, ua1, ub0, ub1⟩))
          (fail)
        have F := laid4 (w := w) kr kt (by omega) (base := w0.heap.size) (by omega) (by omega) (by omega) (by omega) ((hs0.trans S6).trans (Same.refl _)) oi ok oc (.int .i64 m) (.slice A1 L.length c1) (.slice B1 K.length d1) (.slice D1 C.length f1)
        clear kr kt s0 s1 s2 s3 kr0 kr1 kt0 kt1 krf0 krf1 ktf0 ktf1 ppa ppb ua ub ua0 ua1 ub0 ub1 pa pb qa qb pa0 pa1 pb0 pb1 qa0 qa1 qb0 qb1
        have F0 := F.run.cell 0 rfl
        have F1 := F.run.cell 1 rfl
        have F2 := F.bank.cell 0 rfl
        have F3 := F.bank.cell 1 rfl
        unfold lay4 at F0 F1 F2 F3
        go_wp2
        show bodyPost _ _ _ _ _ _
        rw [HN.out.1, HN.out.2.1, HN.out.2.2]
        exact bodyPost_ret (v := .tuple #[.agg #[(.int .i64 m), (.slice A1 L.length c1)], .agg #[(.slice B1 K.length d1), (.slice D1 C.length f1)]]) (by simp [results, Try.results22, go_sem, F0, F1, F2, F3]) rfl ⟨_, _, _, _, _, _, rfl, F.items.rebase n0, F.keys.base n0, F.cents.base n0, st.own.s1, st.own.s2, st.own.s3, F.same.drew⟩
      · have HFO := Lib.hid (show finOk m L K C = true by rw [finOk, m1, m2]; rfl)
        have HM2 := Lib.hid m2
        have HC1 := Lib.hid (confirm_ok (K := K) (C := C) m1)
        obtain ⟨F, hF⟩ : ∃ F, F = sent m (confirm m L K C) K C := ⟨_, rfl⟩
        obtain ⟨L1, hL1⟩ : ∃ L1, L1 = confirm m L K C := ⟨_, rfl⟩
        rw [← hL1] at hF HC1
        have HF := Lib.hid hF
        have HL1 := Lib.hid hL1
        clear hF hL1 m1 m2
        have hr : BoxAt w7 gr 26 [.int .i64 m, .slice A1 L.length c1] := st.run
        have hb : BoxAt w7 gb 29 [.slice B1 K.length d1, .slice D1 C.length f1] := st.bank
        have r0 := hr.cell 0 rfl
        have r1 := hr.cell 1 rfl
        have b0 := hb.cell 0 rfl
        have b1 := hb.cell 1 rfl
        go_wp2_with fail
        refine (iConfirm_any m A1 c1 L B1 d1 K D1 f1 C _ hz (OwnR.cap st.own.it) (OwnR.recs cItem_len st.own.it) (by omega) (OwnI.ints st.own.ks) HWK.out (by omega) (OwnI.ints st.own.cs)).mono ?_
        rw [← HL1.out]
        rintro e w8 ⟨A2, c2, rfl, ho, hs8⟩
        have st9 := st.newRun hs8 ho
        clear r0 r1 b0 b1
        replace hr := hr.same hs8
        have y0 := hr.frozen 0
        have y1 := hr.frozen 1
        have r0 := hr.cell 0 rfl
        have r1 := hr.cell 1 rfl
        clear st ho hs8 hr hb
        go_wp2
        generalize (w8.setCell ⟨gr, 0, none⟩ (.int .i64 m)).setCell ⟨gr, 1, none⟩ (.slice A2 L1.length c2) = w9 at *
        clear y0 y1 r0 r1
        go_loopg [8] (opens L1 + 1) (fun k t8 wr => ∃ (b : Bool) (L' : List TItem) (K' C' : List Int) (ρ : RBRes), t8 = .bool b ∧ FinSt w0 wr gr gb m F k b L' K' C' ρ)
        case atStart => exact ⟨true, L1, K, C, _, rfl, st9, HC1.out, HM2.out, HF.out.symm, fun _ => Nat.le_refl _, fun h => by cases h⟩
        case round =>
          obtain ⟨b, L', K', C', ⟨A3, c3, B3, d3, D3, f3⟩, rfl, hfin⟩ := hrel
          have hln := ok_len hfin.okR hfin.okB
          have HW3 := Lib.hid (wide_ok hfin.okB)
          have st3 := hfin.st
          have hr : BoxAt wr gr 26 [.int .i64 m, .slice A3 L'.length c3] := st3.run
          have hb : BoxAt wr gb 29 [.slice B3 K'.length d3, .slice D3 C'.length f3] := st3.bank
          have r0 := hr.cell 0 rfl
          have r1 := hr.cell 1 rfl
          have b0 := hb.cell 0 rfl
          have b1 := hb.cell 1 rfl
          have HFIN := Lib.hid hfin
          clear hfin
          cases b
          · clear r0 r1 b0 b1
            have HN := Lib.hid (show finL m L K C = confirm m L' K' C' ∧ finK m L K C = K' ∧ finC m L K C = C' from fin_yes HFO.out (by rw [← HL1.out, ← HF.out, ← HFIN.out.goal]; exact sent_no (HFIN.out.done rfl)))
            obtain ⟨L4, hL4⟩ : ∃ L4, L4 = confirm m L' K' C' := ⟨_, rfl⟩
            have HL4 := Lib.hid hL4
            clear hL4
            have S3 := st3.same
            have hlt4 := hr.lt
            have hlt5 := hb.lt
            have oK := st3.own.ks
            have oC := st3.own.cs
            have x1 := st3.l1
            have x2 := st3.l2
            have s0 := hr.cell 0 rfl
            have s1 := hr.cell 1 rfl
            have s2 := hb.cell 0 rfl
            have s3 := hb.cell 1 rfl
            have nlt1 := hr.lt
            have nlt2 := hb.lt
            have nW := Same.size S3
            go_wp2_with fail
            go_region_held3 (fun x => x.cell? ⟨gr, 0, none⟩ = some (.int .i64 m) ∧ x.cell? ⟨gr, 1, none⟩ = some (.slice A3 L'.length c3) ∧ x.cell? ⟨gb, 0, none⟩ = some (.slice B3 K'.length d3) ∧ x.cell? ⟨gb, 1, none⟩ = some (.slice D3 C'.length f3))
              (first | (with_reducible exact ⟨qa0, qa1, qb0, qb1⟩) | (with_reducible exact ⟨pa0, pa1, pb0, pb1⟩) | (with_reducible exact ⟨ka0_0, ka0_1, kb0_0, kb0_1⟩) | exact ⟨s0, s1, s2, s3⟩)
              (first | (go_at_call 20; refine (iConfirm_any m A3 c3 L' B3 d3 K' D3 f3 C' _ (by omega) (OwnR.cap st3.own.it) ((OwnR.recs cItem_len st3.own.it).same (Same.refl _).drew) (by omega) ((OwnI.ints st3.own.ks).same (Same.refl _).drew) HW3.out (by omega) ((OwnI.ints st3.own.cs).same (Same.refl _).drew)).mono ?_; rw [← HL4.out]; rintro e wz0 ⟨A8, c8, rfl, o8, hsz0⟩; (have hz0 := Same.trans (Same.refl _).drew hsz0); (have ka0_ := hr.same hz0); (have kb0_ := hb.same hz0); (have ka0_0 := ka0_.cell 0 rfl); (have ka0_1 := ka0_.cell 1 rfl); (have kb0_0 := kb0_.cell 0 rfl); (have kb0_1 := kb0_.cell 1 rfl); (have kr := (h3.same S3).same hz0); (have kt := (h4.same S3).same hz0); (have kr0 := kr.cell 0 rfl); (have kr1 := kr.cell 1 rfl); (have kt0 := kt.cell 0 rfl); (have kt1 := kt.cell 1 rfl); (have krf0 := kr.frozen 0); (have krf1 := kr.frozen 1); (have ktf0 := kt.frozen 0); (have ktf1 := kt.frozen 1); (have pa := (ka0_.other (k := (w.heap.size + 1 + 1)) (j := 0) (.int .i64 m) (by omega)).other (k := (w.heap.size + 1 + 1)) (j := 1) (.slice A8 L4.length c8) (by omega)); (have qa := (pa.other (k := (w.heap.size + 1 + 1 + 1)) (j := 0) (.slice B3 K'.length d3) (by omega)).other (k := (w.heap.size + 1 + 1 + 1)) (j := 1) (.slice D3 C'.length f3) (by omega)); (have pb := (kb0_.other (k := (w.heap.size + 1 + 1)) (j := 0) (.int .i64 m) (by omega)).other (k := (w.heap.size + 1 + 1)) (j := 1) (.slice A8 L4.length c8) (by omega)); (have qb := (pb.other (k := (w.heap.size + 1 + 1 + 1)) (j := 0) (.slice B3 K'.length d3) (by omega)).other (k := (w.heap.size + 1 + 1 + 1)) (j := 1) (.slice D3 C'.length f3) (by omega)); (have pa0 := pa.cell 0 rfl); (have pa1 := pa.cell 1 rfl); (have pb0 := pb.cell 0 rfl); (have pb1 := pb.cell 1 rfl); (have qa0 := qa.cell 0 rfl); (have qa1 := qa.cell 1 rfl); (have qb0 := qb.cell 0 rfl); (have qb1 := qb.cell 1 rfl)))
            have nz : _ ≤ wz0.heap.size := Same.size hz0
            have F := laid4 (w := w) kr kt (by omega) (base := w0.heap.size) (by omega) (by omega) (by omega) (by omega) ((hs0.trans S3).trans hz0) (OwnR.rebase o8 (by first | exact nW | simpa using nW)) (OwnI.same oK hz0) (OwnI.same oC hz0) (.int .i64 m) (.slice A8 L4.length c8) (.slice B3 K'.length d3) (.slice D3 C'.length f3)
            clear kr kt s0 s1 s2 s3 ka0_ kb0_ ka0_0 ka0_1 kb0_0 kb0_1 kr0 kr1 kt0 kt1 krf0 krf1 ktf0 ktf1 pa pb qa qb pa0 pa1 pb0 pb1 qa0 qa1 qb0 qb1
            have F0 := F.run.cell 0 rfl
            have F1 := F.run.cell 1 rfl
            have F2 := F.bank.cell 0 rfl
            have F3 := F.bank.cell 1 rfl
            unfold lay4 at F0 F1 F2 F3
            go_wp2
            show bodyPost _ _ _ _ _ _
            rw [HN.out.1, HN.out.2.1, HN.out.2.2, ← HL4.out]
            exact bodyPost_ret (v := .tuple #[.agg #[(.int .i64 m), (.slice A8 L4.length c8)], .agg #[(.slice B3 K'.length d3), (.slice D3 C'.length f3)]]) (by simp [results, Try.results22, go_sem, F0, F1, F2, F3]) rfl ⟨_, _, _, _, _, _, rfl, F.items.rebase n0, F.keys.base n0, F.cents.base n0, (Sep.new oK o8 (Nat.le_refl _)).symm, (Sep.new oC o8 (Nat.le_refl _)).symm, st3.own.s3, F.same⟩
          · have hg1 := HFIN.out.more rfl
            go_wp2_with fail
            refine (iSend_any m A3 c3 L' B3 d3 K' D3 f3 C' _ (by omega) (OwnR.cap st3.own.it) (OwnR.recs cItem_len st3.own.it) (by omega) (OwnI.ints st3.own.ks) HW3.out (by omega) (OwnI.ints st3.own.cs)).mono ?_
            obtain ⟨L4, hL4⟩ : ∃ L4, L4 = sendL m L' K' C' := ⟨_, rfl⟩
            obtain ⟨K4, hK4⟩ : ∃ K4, K4 = sendK m L' K' C' := ⟨_, rfl⟩
            obtain ⟨C4, hC4⟩ : ∃ C4, C4 = sendC m L' K' C' := ⟨_, rfl⟩
            obtain ⟨ok, hok⟩ : ∃ ok, ok = sendOk m L' K' C' := ⟨_, rfl⟩
            have HNX := Lib.hid (show (runOk m L4 = true ∧ bankOk K4 C4 = true ∧ sent m L4 K4 C4 = F) ∧ (ok = true → opens L4 + 1 ≤ opens L') ∧ (ok = false → sendOk m L4 K4 C4 = false) by
              rw [hL4, hK4, hC4, hok]
              refine ⟨⟨sendL_ok HFIN.out.okR, sendKC_ok HFIN.out.okB, ?_⟩, fun h => by rw [opens_send h]; exact Nat.le_refl _, fun h => ?_⟩
              · cases h : sendOk m L' K' C'
                · obtain ⟨e1, e2, e3⟩ := send_fix h
                  rw [e1, e2, e3]; exact HFIN.out.goal
                · rw [← sent_yes h]; exact HFIN.out.goal
              · obtain ⟨e1, e2, e3⟩ := send_fix h
                rw [e1, e2, e3]; exact h)
            rw [← hL4, ← hK4, ← hC4, ← hok]
            rintro e w10 ⟨A4, c4, B4, d4, D4, f4, rfl, o1, o2, o3, s1, s2, s3, hs10⟩
            clear hL4 hK4 hC4 hok r0 r1 b0 b1
            have st5 := st3.newAll hs10 o1 o2 o3 s1 s2 s3
            replace hr := hr.same hs10
            replace hb := hb.same hs10
            have hne := st3.ne
            have y0 := hr.frozen 0
            have y1 := hr.frozen 1
            have r0 := hr.cell 0 rfl
            have r1 := hr.cell 1 rfl
            have hb2 := (hb.other (k := gr) (j := 0) (.int .i64 m) (Ne.symm hne)).other (k := gr) (j := 1) (.slice A4 L4.length c4) (Ne.symm hne)
            have z0 := hb2.frozen 0
            have z1 := hb2.frozen 1
            have b0 := hb2.cell 0 rfl
            have b1 := hb2.cell 1 rfl
            clear hne hb2 hr hb o1 o2 o3 s1 s2 s3 hs10 st3
            go_wp2
            clear y0 y1 r0 r1 z0 z1 b0 b1
            go_roundg (opens L')
            case measure => omega
            case rel => exact ⟨ok, L4, K4, C4, _, rfl, st5, HNX.out.1.1, HNX.out.1.2.1, HNX.out.1.2.2, HNX.out.2.1, HNX.out.2.2⟩
end Go.Proofs.Ytccgbilgfnoheaa
