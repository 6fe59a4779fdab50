/-
  The reference's Finish.
-/
import Derived.Test.YtccgbilgfnoheaaFinishI
namespace Go.Proofs.Ytccgbilgfnoheaa
open Go.RowKit
set_option linter.unusedVariables false
set_option linter.unnecessarySimpa false

set_option maxRecDepth 100000 in
set_option maxHeartbeats 4000000 in
theorem sFinish_any (m : Int) (A : Option Addr) (c : Nat) (L : List TItem) (B : Option Addr) (d : Nat) (K : List Int) (D : Option Addr) (f : Nat) (C : List Int) (w : World)
    (hz : L.length ≤ 1000000000) (hnA : A = none → c = 0) (hA : AtItem w A L) (hzK : K.length ≤ 900000000) (hnB : B = none → d = 0) (hcB : K.length ≤ d) (hB : IntsAt w B K) (hzC : C.length ≤ 900000000) (hnD : D = none → f = 0) (hD : IntsAt w D C) :
    Calls Try.prog 49 #[.agg #[.int .i64 m, .slice A L.length c], .agg #[.slice B K.length d, .slice D C.length f]] w (RetRB w m (finL m L K C) (finK m L K C) (finC m L K C)) := by
  have hz' : L.length ≤ 9223372036854775807 := by omega
  go_enter Try.func49, Try.ntmps49
  go_wp2_with fail
  have h1 : BoxAt ((((w.alloc (.cells #[.int .i64 m, .slice A L.length c] 26)).alloc (.cells #[.slice B K.length d, .slice D C.length f] 29)).alloc (.cells #[.int .i64 0, .slice none 0 0] 26)).alloc (.cells #[.slice none 0 0, .slice none 0 0] 29)) (w.heap.size) 26 [.int .i64 m, .slice A L.length c] := by simpa using (BoxAt.alloc (BoxAt.alloc (BoxAt.alloc (BoxAt.new w 26 [.int .i64 m, .slice A L.length c]) (.cells #[.slice B K.length d, .slice D C.length f] 29)) (.cells #[.int .i64 0, .slice none 0 0] 26)) (.cells #[.slice none 0 0, .slice none 0 0] 29))
  have h2 : BoxAt ((((w.alloc (.cells #[.int .i64 m, .slice A L.length c] 26)).alloc (.cells #[.slice B K.length d, .slice D C.length f] 29)).alloc (.cells #[.int .i64 0, .slice none 0 0] 26)).alloc (.cells #[.slice none 0 0, .slice none 0 0] 29)) (w.heap.size + 1) 29 [.slice B K.length d, .slice D C.length f] := by simpa using (BoxAt.alloc (BoxAt.alloc (BoxAt.new (w.alloc (.cells #[.int .i64 m, .slice A L.length c] 26)) 29 [.slice B K.length d, .slice D C.length f]) (.cells #[.int .i64 0, .slice none 0 0] 26)) (.cells #[.slice none 0 0, .slice none 0 0] 29))
  have h3 : BoxAt ((((w.alloc (.cells #[.int .i64 m, .slice A L.length c] 26)).alloc (.cells #[.slice B K.length d, .slice D C.length f] 29)).alloc (.cells #[.int .i64 0, .slice none 0 0] 26)).alloc (.cells #[.slice none 0 0, .slice none 0 0] 29)) (w.heap.size + 1 + 1) 26 [.int .i64 0, .slice none 0 0] := by simpa using (BoxAt.alloc (BoxAt.new ((w.alloc (.cells #[.int .i64 m, .slice A L.length c] 26)).alloc (.cells #[.slice B K.length d, .slice D C.length f] 29)) 26 [.int .i64 0, .slice none 0 0]) (.cells #[.slice none 0 0, .slice none 0 0] 29))
  have h4 : BoxAt ((((w.alloc (.cells #[.int .i64 m, .slice A L.length c] 26)).alloc (.cells #[.slice B K.length d, .slice D C.length f] 29)).alloc (.cells #[.int .i64 0, .slice none 0 0] 26)).alloc (.cells #[.slice none 0 0, .slice none 0 0] 29)) (w.heap.size + 1 + 1 + 1) 29 [.slice none 0 0, .slice none 0 0] := by simpa using (BoxAt.new (((w.alloc (.cells #[.int .i64 m, .slice A L.length c] 26)).alloc (.cells #[.slice B K.length d, .slice D C.length f] 29)).alloc (.cells #[.int .i64 0, .slice none 0 0] 26)) 29 [.slice none 0 0, .slice none 0 0])
  have hs0 := (Same.alloc (Same.alloc (Same.alloc (Same.alloc (Same.refl w) (.cells #[.int .i64 m, .slice A L.length c] 26)) (.cells #[.slice B K.length d, .slice D C.length f] 29)) (.cells #[.int .i64 0, .slice none 0 0] 26)) (.cells #[.slice none 0 0, .slice none 0 0] 29))
  generalize ((((w.alloc (.cells #[.int .i64 m, .slice A L.length c] 26)).alloc (.cells #[.slice B K.length d, .slice D C.length f] 29)).alloc (.cells #[.int .i64 0, .slice none 0 0] 26)).alloc (.cells #[.slice none 0 0, .slice none 0 0] 29)) = w0 at *
  have n0 := hs0.size
  have n4 := h4.lt
  refine (sRunOk_any m A c L _ hz' (hA.same hs0)).mono ?_
  rintro e w5 ⟨rfl, S5⟩
  cases m1 : runOk m L
  · have HN := Lib.hid (fin_no (show finOk m L K C = false by rw [finOk, m1]; rfl))
    clear m1
    have k1 := h1.same S5
    have k2 := h2.same S5
    have s0 := k1.cell 0 rfl
    have s1 := k1.cell 1 rfl
    have s2 := k2.cell 0 rfl
    have s3 := k2.cell 1 rfl
    have nlt1 := k1.lt
    have nlt2 := k2.lt
    have nW := Same.size S5
    go_wp2_with fail
    go_region_held3 (fun x => x.cell? ⟨w.heap.size, 0, none⟩ = some (.int .i64 m) ∧ x.cell? ⟨w.heap.size, 1, none⟩ = some (.slice A L.length c) ∧ x.cell? ⟨(w.heap.size + 1), 0, none⟩ = some (.slice B K.length d) ∧ x.cell? ⟨(w.heap.size + 1), 1, none⟩ = some (.slice D C.length f))
      (first | (with_reducible exact ⟨qa0, qa1, qb0, qb1⟩) | (with_reducible exact ⟨pa0, pa1, pb0, pb1⟩) | (with_reducible exact ⟨ka1_0, ka1_1, kb1_0, kb1_1⟩) | (with_reducible exact ⟨ka0_0, ka0_1, kb0_0, kb0_1⟩) | exact ⟨s0, s1, s2, s3⟩)
      (first | (go_at_call 76; refine (l25Run_any m A c L _ hz ((hA.same hs0).same (Same.trans S5 (Same.refl _).drew)) hnA).mono ?_; rintro e wz0 ⟨A8, c8, rfl, o8, hsz0⟩; (have hz0 := Same.trans (Same.refl _).drew hsz0); (have ka0_ := k1.same hz0); (have kb0_ := k2.same hz0); (have ka0_0 := ka0_.cell 0 rfl); (have ka0_1 := ka0_.cell 1 rfl); (have kb0_0 := kb0_.cell 0 rfl); (have kb0_1 := kb0_.cell 1 rfl)) | (go_at_call 74; refine (l25Copy_any B d K D f C _ (by omega) hnB ((hB.same hs0).same (Same.trans S5 hz0)) (by omega) hnD ((hD.same hs0).same (Same.trans S5 hz0))).mono ?_; rintro e wz1 ⟨B8, d8, D8, f8, rfl, ok8, oc8, sp8, hsz1⟩; (have hz1 := Same.trans hz0 hsz1); (have ka1_ := k1.same hz1); (have kb1_ := k2.same hz1); (have ka1_0 := ka1_.cell 0 rfl); (have ka1_1 := ka1_.cell 1 rfl); (have kb1_0 := kb1_.cell 0 rfl); (have kb1_1 := kb1_.cell 1 rfl); (have kr := (h3.same S5).same hz1); (have kt := (h4.same S5).same hz1); (have kr0 := kr.cell 0 rfl); (have kr1 := kr.cell 1 rfl); (have kt0 := kt.cell 0 rfl); (have kt1 := kt.cell 1 rfl); (have krf0 := kr.frozen 0); (have krf1 := kr.frozen 1); (have ktf0 := kt.frozen 0); (have ktf1 := kt.frozen 1); (have pa := (ka1_.other (k := (w.heap.size + 1 + 1)) (j := 0) (.int .i64 m) (by omega)).other (k := (w.heap.size + 1 + 1)) (j := 1) (.slice A8 L.length c8) (by omega)); (have qa := (pa.other (k := (w.heap.size + 1 + 1 + 1)) (j := 0) (.slice B8 K.length d8) (by omega)).other (k := (w.heap.size + 1 + 1 + 1)) (j := 1) (.slice D8 C.length f8) (by omega)); (have pb := (kb1_.other (k := (w.heap.size + 1 + 1)) (j := 0) (.int .i64 m) (by omega)).other (k := (w.heap.size + 1 + 1)) (j := 1) (.slice A8 L.length c8) (by omega)); (have qb := (pb.other (k := (w.heap.size + 1 + 1 + 1)) (j := 0) (.slice B8 K.length d8) (by omega)).other (k := (w.heap.size + 1 + 1 + 1)) (j := 1) (.slice D8 C.length f8) (by omega)); (have pa0 := pa.cell 0 rfl); (have pa1 := pa.cell 1 rfl); (have pb0 := pb.cell 0 rfl); (have pb1 := pb.cell 1 rfl); (have qa0 := qa.cell 0 rfl); (have qa1 := qa.cell 1 rfl); (have qb0 := qb.cell 0 rfl); (have qb1 := qb.cell 1 rfl)))
    have nz : _ ≤ wz1.heap.size := Same.size hz1
    have F := laid4 (w := w) kr kt (by omega) (base := w0.heap.size) (by omega) (by omega) (by omega) (by omega) ((hs0.trans S5).trans hz1) ((o8.rebase (by first | exact nW | simpa using nW)).same hsz1) (ok8.base (by have := Same.size hz0; omega)) (oc8.base (by have := Same.size hz0; omega)) (.int .i64 m) (.slice A8 L.length c8) (.slice B8 K.length d8) (.slice D8 C.length f8)
    clear kr kt s0 s1 s2 s3 ka0_ kb0_ ka0_0 ka0_1 kb0_0 kb0_1 ka1_ kb1_ ka1_0 ka1_1 kb1_0 kb1_1 kr0 kr1 kt0 kt1 krf0 krf1 ktf0 ktf1 pa pb qa qb pa0 pa1 pb0 pb1 qa0 qa1 qb0 qb1
    have F0 := F.run.cell 0 rfl
    have F1 := F.run.cell 1 rfl
    have F2 := F.bank.cell 0 rfl
    have F3 := F.bank.cell 1 rfl
    unfold lay4 at F0 F1 F2 F3
    go_wp2
    show bodyPost _ _ _ _ _ _
    rw [HN.out.1, HN.out.2.1, HN.out.2.2]
    exact bodyPost_ret (v := .tuple #[.agg #[(.int .i64 m), (.slice A8 L.length c8)], .agg #[(.slice B8 K.length d8), (.slice D8 C.length f8)]]) (by simp [results, Try.results49, go_sem, F0, F1, F2, F3]) rfl ⟨_, _, _, _, _, _, rfl, F.items.rebase n0, F.keys.base n0, F.cents.base n0, Sep.new o8 ok8 (Nat.le_refl _), Sep.new o8 oc8 (Nat.le_refl _), sp8, F.same⟩
  · have a20 := (h2.same S5).cell 0 rfl
    have a21 := (h2.same S5).cell 1 rfl
    go_wp2_with fail
    refine (sBankOk_any B D d f K C _ (by omega) (by omega) hcB ((hB.same hs0).same S5) ((hD.same hs0).same S5)).mono ?_
    rintro e w7 ⟨rfl, hs7⟩
    have S7 := S5.trans hs7
    clear hs7 a20 a21 S5
    cases m2 : bankOk K C
    · have HN := Lib.hid (fin_no (show finOk m L K C = false by rw [finOk, m1, m2]; rfl))
      clear m1 m2
      have k1 := h1.same S7
      have k2 := h2.same S7
      have s0 := k1.cell 0 rfl
      have s1 := k1.cell 1 rfl
      have s2 := k2.cell 0 rfl
      have s3 := k2.cell 1 rfl
      have nlt1 := k1.lt
      have nlt2 := k2.lt
      have nW := Same.size S7
      go_wp2_with fail
      go_region_held3 (fun x => x.cell? ⟨w.heap.size, 0, none⟩ = some (.int .i64 m) ∧ x.cell? ⟨w.heap.size, 1, none⟩ = some (.slice A L.length c) ∧ x.cell? ⟨(w.heap.size + 1), 0, none⟩ = some (.slice B K.length d) ∧ x.cell? ⟨(w.heap.size + 1), 1, none⟩ = some (.slice D C.length f))
        (first | (with_reducible exact ⟨qa0, qa1, qb0, qb1⟩) | (with_reducible exact ⟨pa0, pa1, pb0, pb1⟩) | (with_reducible exact ⟨ka1_0, ka1_1, kb1_0, kb1_1⟩) | (with_reducible exact ⟨ka0_0, ka0_1, kb0_0, kb0_1⟩) | exact ⟨s0, s1, s2, s3⟩)
        (first | (go_at_call 76; refine (l25Run_any m A c L _ hz ((hA.same hs0).same (Same.trans S7 (Same.refl _).drew)) hnA).mono ?_; rintro e wz0 ⟨A8, c8, rfl, o8, hsz0⟩; (have hz0 := Same.trans (Same.refl _).drew hsz0); (have ka0_ := k1.same hz0); (have kb0_ := k2.same hz0); (have ka0_0 := ka0_.cell 0 rfl); (have ka0_1 := ka0_.cell 1 rfl); (have kb0_0 := kb0_.cell 0 rfl); (have kb0_1 := kb0_.cell 1 rfl)) | (go_at_call 74; refine (l25Copy_any B d K D f C _ (by omega) hnB ((hB.same hs0).same (Same.trans S7 hz0)) (by omega) hnD ((hD.same hs0).same (Same.trans S7 hz0))).mono ?_; rintro e wz1 ⟨B8, d8, D8, f8, rfl, ok8, oc8, sp8, hsz1⟩; (have hz1 := Same.trans hz0 hsz1); (have ka1_ := k1.same hz1); (have kb1_ := k2.same hz1); (have ka1_0 := ka1_.cell 0 rfl); (have ka1_1 := ka1_.cell 1 rfl); (have kb1_0 := kb1_.cell 0 rfl); (have kb1_1 := kb1_.cell 1 rfl); (have kr := (h3.same S7).same hz1); (have kt := (h4.same S7).same hz1); (have kr0 := kr.cell 0 rfl); (have kr1 := kr.cell 1 rfl); (have kt0 := kt.cell 0 rfl); (have kt1 := kt.cell 1 rfl); (have krf0 := kr.frozen 0); (have krf1 := kr.frozen 1); (have ktf0 := kt.frozen 0); (have ktf1 := kt.frozen 1); (have pa := (ka1_.other (k := (w.heap.size + 1 + 1)) (j := 0) (.int .i64 m) (by omega)).other (k := (w.heap.size + 1 + 1)) (j := 1) (.slice A8 L.length c8) (by omega)); (have qa := (pa.other (k := (w.heap.size + 1 + 1 + 1)) (j := 0) (.slice B8 K.length d8) (by omega)).other (k := (w.heap.size + 1 + 1 + 1)) (j := 1) (.slice D8 C.length f8) (by omega)); (have pb := (kb1_.other (k := (w.heap.size + 1 + 1)) (j := 0) (.int .i64 m) (by omega)).other (k := (w.heap.size + 1 + 1)) (j := 1) (.slice A8 L.length c8) (by omega)); (have qb := (pb.other (k := (w.heap.size + 1 + 1 + 1)) (j := 0) (.slice B8 K.length d8) (by omega)).other (k := (w.heap.size + 1 + 1 + 1)) (j := 1) (.slice D8 C.length f8) (by omega)); (have pa0 := pa.cell 0 rfl); (have pa1 := pa.cell 1 rfl); (have pb0 := pb.cell 0 rfl); (have pb1 := pb.cell 1 rfl); (have qa0 := qa.cell 0 rfl); (have qa1 := qa.cell 1 rfl); (have qb0 := qb.cell 0 rfl); (have qb1 := qb.cell 1 rfl)))
      have nz : _ ≤ wz1.heap.size := Same.size hz1
      have F := laid4 (w := w) kr kt (by omega) (base := w0.heap.size) (by omega) (by omega) (by omega) (by omega) ((hs0.trans S7).trans hz1) ((o8.rebase (by first | exact nW | simpa using nW)).same hsz1) (ok8.base (by have := Same.size hz0; omega)) (oc8.base (by have := Same.size hz0; omega)) (.int .i64 m) (.slice A8 L.length c8) (.slice B8 K.length d8) (.slice D8 C.length f8)
      clear kr kt s0 s1 s2 s3 ka0_ kb0_ ka0_0 ka0_1 kb0_0 kb0_1 ka1_ kb1_ ka1_0 ka1_1 kb1_0 kb1_1 kr0 kr1 kt0 kt1 krf0 krf1 ktf0 ktf1 pa pb qa qb pa0 pa1 pb0 pb1 qa0 qa1 qb0 qb1
      have F0 := F.run.cell 0 rfl
      have F1 := F.run.cell 1 rfl
      have F2 := F.bank.cell 0 rfl
      have F3 := F.bank.cell 1 rfl
      unfold lay4 at F0 F1 F2 F3
      go_wp2
      show bodyPost _ _ _ _ _ _
      rw [HN.out.1, HN.out.2.1, HN.out.2.2]
      exact bodyPost_ret (v := .tuple #[.agg #[(.int .i64 m), (.slice A8 L.length c8)], .agg #[(.slice B8 K.length d8), (.slice D8 C.length f8)]]) (by simp [results, Try.results49, go_sem, F0, F1, F2, F3]) rfl ⟨_, _, _, _, _, _, rfl, F.items.rebase n0, F.keys.base n0, F.cents.base n0, Sep.new o8 ok8 (Nat.le_refl _), Sep.new o8 oc8 (Nat.le_refl _), sp8, F.same⟩
    · have HFO := Lib.hid (show finOk m L K C = true by rw [finOk, m1, m2]; rfl)
      have HM2 := Lib.hid m2
      have HC1 := Lib.hid (confirm_ok (K := K) (C := C) m1)
      obtain ⟨F, hF⟩ : ∃ F, F = sent m (confirm m L K C) K C := ⟨_, rfl⟩
      obtain ⟨L1, hL1⟩ : ∃ L1, L1 = confirm m L K C := ⟨_, rfl⟩
      rw [← hL1] at hF HC1
      have HF := Lib.hid hF
      have HL1 := Lib.hid hL1
      clear hF hL1 m1 m2
      have r0 := (h1.same S7).cell 0 rfl
      have r1 := (h1.same S7).cell 1 rfl
      have b0 := (h2.same S7).cell 0 rfl
      have b1 := (h2.same S7).cell 1 rfl
      go_wp2_with fail
      refine (sConfirm_any m A c L B d K D f C _ hz hnA ((hA.same hs0).same S7) (by omega) hcB ((hB.same hs0).same S7) (by omega) ((hD.same hs0).same S7)).mono ?_
      rw [← HL1.out]
      rintro e w8 ⟨A2, c2, rfl, ho, hs8⟩
      have S8 := S7.trans hs8
      have nn7 := S7.size
      clear r0 r1 b0 b1
      have hsa := (Same.refl w8).alloc (.cells #[.int .i64 m, .slice A2 L1.length c2] 26)
      have b0 := (h2.same (S8.trans hsa)).cell 0 rfl
      have b1 := (h2.same (S8.trans hsa)).cell 1 rfl
      go_wp2_with fail
      refine (l25Copy_any B d K D f C _ (by omega) hnB ((hB.same hs0).same (S8.trans hsa)) (by omega) hnD ((hD.same hs0).same (S8.trans hsa))).mono ?_
      rintro e w9 ⟨B1, d1, D1, f1, rfl, hk, hc, sp, hs9⟩
      rw [World.size_alloc] at hk hc
      have st9 := SendSt.start S8 (ho.rebase nn7) hs9 hk hc sp
      clear b0 b1 ho hk hc sp hs9 hsa hs8 S8
      go_wp2
      generalize w9.alloc (.cells #[.slice B1 K.length d1, .slice D1 C.length f1] 29) = w11 at *
      generalize w8.heap.size = gr at *
      generalize w9.heap.size = gb at *
      go_loopg [25] (opens L1 + 1) (fun k t25 wr => ∃ (L' : List TItem) (K' C' : List Int) (ρ : RBRes), FinSt w0 wr gr gb m F k true L' K' C' ρ)
      case atStart => exact ⟨L1, K, C, _, st9, HC1.out, HM2.out, HF.out.symm, fun _ => Nat.le_refl _, fun h => by cases h⟩
      case round =>
        obtain ⟨L', K', C', ρ, hfin⟩ := hrel
        have HFIN := Lib.hid hfin
        have hg1 := hfin.more rfl
        clear hfin
        go_wp2_with fail
        refine (l25Send_any m L' K' C' ρ _ gr gb w0 _ HFIN.out.st HFIN.out.okR HFIN.out.okB).mono ?_
        cases hso : sendOk m L' K' C'
        · rintro e w10 ⟨ρ', rfl, st10⟩
          obtain ⟨e1, e2, e3⟩ := send_fix hso
          rw [e1, e2, e3] at st10
          rw [hso]
          have HN := Lib.hid (show finL m L K C = confirm m L' K' C' ∧ finK m L K C = K' ∧ finC m L K C = C' from fin_yes HFO.out (by rw [← HL1.out, ← HF.out, ← HFIN.out.goal]; exact sent_no hso))
          have hln := ok_len HFIN.out.okR HFIN.out.okB
          clear e1 e2 e3 hso
          obtain ⟨A3, c3, B3, d3, D3, f3⟩ := ρ'
          have hr : BoxAt w10 gr 26 [.int .i64 m, .slice A3 L'.length c3] := st10.run
          have hb : BoxAt w10 gb 29 [.slice B3 K'.length d3, .slice D3 C'.length f3] := st10.bank
          obtain ⟨L4, hL4⟩ : ∃ L4, L4 = confirm m L' K' C' := ⟨_, rfl⟩
          have HL4 := Lib.hid hL4
          clear hL4
          have S3 := st10.same
          have hlt4 := hr.lt
          have hlt5 := hb.lt
          have oi : OwnItem w10 w0.heap.size (.slice A3 L'.length c3) L' := st10.own.it
          have oK := st10.own.ks
          have oC := st10.own.cs
          have x1 := st10.l1
          have x2 := st10.l2
          skip
          · skip
            have s0 := hr.cell 0 rfl
            have s1 := hr.cell 1 rfl
            have s2 := hb.cell 0 rfl
            have s3 := hb.cell 1 rfl
            have nlt1 := hr.lt
            have nlt2 := hb.lt
            have nW := Same.size S3
            go_wp2_with fail
            go_region_held3 (fun x => x.cell? ⟨gr, 0, none⟩ = some (.int .i64 m) ∧ x.cell? ⟨gr, 1, none⟩ = some (.slice A3 L'.length c3) ∧ x.cell? ⟨gb, 0, none⟩ = some (.slice B3 K'.length d3) ∧ x.cell? ⟨gb, 1, none⟩ = some (.slice D3 C'.length f3))
              (first | (with_reducible exact ⟨qa0, qa1, qb0, qb1⟩) | (with_reducible exact ⟨pa0, pa1, pb0, pb1⟩) | (with_reducible exact ⟨ka1_0, ka1_1, kb1_0, kb1_1⟩) | (with_reducible exact ⟨ka0_0, ka0_1, kb0_0, kb0_1⟩) | exact ⟨s0, s1, s2, s3⟩)
              (first | (go_at_call 47; refine (sConfirm_any m A3 c3 L' B3 d3 K' D3 f3 C' _ (by omega) (OwnR.nil_cap2 oi) ((OwnR.recs cItem_len oi).same (Same.refl _).drew) (by omega) (OwnI.cap oK) ((OwnI.ints oK).same (Same.refl _).drew) (by omega) ((OwnI.ints oC).same (Same.refl _).drew)).mono ?_; rw [← HL4.out]; rintro e wz0 ⟨A8, c8, rfl, o8, hsz0⟩; (have hz0 := Same.trans (Same.refl _).drew hsz0); (have ka0_ := hr.same hz0); (have kb0_ := hb.same hz0); (have ka0_0 := ka0_.cell 0 rfl); (have ka0_1 := ka0_.cell 1 rfl); (have kb0_0 := kb0_.cell 0 rfl); (have kb0_1 := kb0_.cell 1 rfl)) | (go_at_call 74; refine (l25Copy_any B3 d3 K' D3 f3 C' _ (by omega) (OwnI.nil_cap oK) ((OwnI.ints oK).same hz0) (by omega) (OwnI.nil_cap oC) ((OwnI.ints oC).same hz0)).mono ?_; rintro e wz1 ⟨B8, d8, D8, f8, rfl, ok8, oc8, sp8, hsz1⟩; (have hz1 := Same.trans hz0 hsz1); (have ka1_ := hr.same hz1); (have kb1_ := hb.same hz1); (have ka1_0 := ka1_.cell 0 rfl); (have ka1_1 := ka1_.cell 1 rfl); (have kb1_0 := kb1_.cell 0 rfl); (have kb1_1 := kb1_.cell 1 rfl); (have kr := (h3.same S3).same hz1); (have kt := (h4.same S3).same hz1); (have kr0 := kr.cell 0 rfl); (have kr1 := kr.cell 1 rfl); (have kt0 := kt.cell 0 rfl); (have kt1 := kt.cell 1 rfl); (have krf0 := kr.frozen 0); (have krf1 := kr.frozen 1); (have ktf0 := kt.frozen 0); (have ktf1 := kt.frozen 1); (have pa := (ka1_.other (k := (w.heap.size + 1 + 1)) (j := 0) (.int .i64 m) (by omega)).other (k := (w.heap.size + 1 + 1)) (j := 1) (.slice A8 L4.length c8) (by omega)); (have qa := (pa.other (k := (w.heap.size + 1 + 1 + 1)) (j := 0) (.slice B8 K'.length d8) (by omega)).other (k := (w.heap.size + 1 + 1 + 1)) (j := 1) (.slice D8 C'.length f8) (by omega)); (have pb := (kb1_.other (k := (w.heap.size + 1 + 1)) (j := 0) (.int .i64 m) (by omega)).other (k := (w.heap.size + 1 + 1)) (j := 1) (.slice A8 L4.length c8) (by omega)); (have qb := (pb.other (k := (w.heap.size + 1 + 1 + 1)) (j := 0) (.slice B8 K'.length d8) (by omega)).other (k := (w.heap.size + 1 + 1 + 1)) (j := 1) (.slice D8 C'.length f8) (by omega)); (have pa0 := pa.cell 0 rfl); (have pa1 := pa.cell 1 rfl); (have pb0 := pb.cell 0 rfl); (have pb1 := pb.cell 1 rfl); (have qa0 := qa.cell 0 rfl); (have qa1 := qa.cell 1 rfl); (have qb0 := qb.cell 0 rfl); (have qb1 := qb.cell 1 rfl)))
            have nz : _ ≤ wz1.heap.size := Same.size hz1
            have F := laid4 (w := w) kr kt (by omega) (base := w0.heap.size) (by omega) (by omega) (by omega) (by omega) ((hs0.trans S3).trans hz1) ((OwnR.rebase o8 (by first | exact nW | simpa using nW)).same hsz1) (ok8.base (by have := Same.size hz0; omega)) (oc8.base (by have := Same.size hz0; omega)) (.int .i64 m) (.slice A8 L4.length c8) (.slice B8 K'.length d8) (.slice D8 C'.length f8)
            clear kr kt s0 s1 s2 s3 ka0_ kb0_ ka0_0 ka0_1 kb0_0 kb0_1 ka1_ kb1_ ka1_0 ka1_1 kb1_0 kb1_1 kr0 kr1 kt0 kt1 krf0 krf1 ktf0 ktf1 pa pb qa qb pa0 pa1 pb0 pb1 qa0 qa1 qb0 qb1
            have F0 := F.run.cell 0 rfl
            have F1 := F.run.cell 1 rfl
            have F2 := F.bank.cell 0 rfl
            have F3 := F.bank.cell 1 rfl
            unfold lay4 at F0 F1 F2 F3
            go_wp2
            show bodyPost _ _ _ _ _ _
            rw [HN.out.1, HN.out.2.1, HN.out.2.2, ← HL4.out]
            exact bodyPost_ret (v := .tuple #[.agg #[(.int .i64 m), (.slice A8 L4.length c8)], .agg #[(.slice B8 K'.length d8), (.slice D8 C'.length f8)]]) (by simp [results, Try.results49, go_sem, F0, F1, F2, F3]) rfl ⟨_, _, _, _, _, _, rfl, F.items.rebase n0, F.keys.base n0, F.cents.base n0, Sep.new o8 ok8 (Nat.le_refl _), Sep.new o8 oc8 (Nat.le_refl _), sp8, F.same⟩
        · rintro e w10 ⟨ρ', rfl, st10⟩
          rw [hso]
          have HNX := Lib.hid (show (runOk m (sendL m L' K' C') = true ∧ bankOk (sendK m L' K' C') (sendC m L' K' C') = true ∧ sent m (sendL m L' K' C') (sendK m L' K' C') (sendC m L' K' C') = F) ∧ opens (sendL m L' K' C') + 1 ≤ opens L' from
            ⟨⟨sendL_ok HFIN.out.okR, sendKC_ok HFIN.out.okB, by rw [← sent_yes hso]; exact HFIN.out.goal⟩, by rw [opens_send hso]; exact Nat.le_refl _⟩)
          clear hso
          go_wp2
          go_roundg (opens L')
          case measure => omega
          case rel => exact ⟨_, _, _, ρ', st10, HNX.out.1.1, HNX.out.1.2.1, HNX.out.1.2.2, fun _ => HNX.out.2, fun h => by cases h⟩
end Go.Proofs.Ytccgbilgfnoheaa
