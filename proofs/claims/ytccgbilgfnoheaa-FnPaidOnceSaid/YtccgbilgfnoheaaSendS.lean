/-
  The reference's SendNext.
-/
import Derived.Test.YtccgbilgfnoheaaSendP
namespace Go.Proofs.Ytccgbilgfnoheaa
open Go.RowKit
set_option linter.unusedVariables false
set_option linter.unnecessarySimpa false

theorem OwnR.nil_cap2 {T : Type} {e : TypeId} {s : Nat} {cells : T → List Value} {w : World} {base n c : Nat} {A : Option Addr} {L : List T} (h : OwnR e s cells w base (.slice A n c) L) : A = none → c = 0 := fun hA => by
  subst hA
  rcases h.2 with ⟨hv, _⟩ | ⟨g', cap, cur, hv, _⟩
  · injection hv
  · injection hv with hv _ _; cases hv
/-- What begins with two copies. -/
theorem SendSt.start {w0 w1 w3 : World} {m : Int} {L : List TItem} {K C : List Int} {A : Option Addr} {c : Nat} {B : Option Addr} {d : Nat} {D : Option Addr} {f : Nat} (hs : Same w0 w1) (ho : OwnItem w1 w0.heap.size (.slice A L.length c) L)
    (hs3 : Same (w1.alloc (.cells #[.int .i64 m, .slice A L.length c] 26)) w3) (hk : OwnI w3 (w1.heap.size + 1) (.slice B K.length d) K) (hc : OwnI w3 (w1.heap.size + 1) (.slice D C.length f) C) (sp : Sep (.slice B K.length d) (.slice D C.length f)) :
    SendSt w0 (w3.alloc (.cells #[.slice B K.length d, .slice D C.length f] 29)) w0.heap.size w1.heap.size w3.heap.size m L K C ⟨A, c, B, d, D, f⟩ := by
  have n1 := hs.size
  have n3 := hs3.size
  rw [World.size_alloc] at n3
  have hal := (Same.refl w3).alloc (.cells #[.slice B K.length d, .slice D C.length f] 29)
  have ho1 := ho.same ((Same.refl w1).alloc (.cells #[.int .i64 m, .slice A L.length c] 26))
  refine ⟨((BoxAt.new w1 _ [_, _]).same hs3).same hal, BoxAt.new w3 _ [_, _], ⟨(ho1.same hs3).same hal, (hk.base (by omega)).same hal, (hc.base (by omega)).same hal, ?_, ?_, sp⟩, ⟨?_, ?_, ?_⟩, ⟨?_, ?_, ?_⟩, by omega, ((hs.alloc _).trans hs3).trans hal, n1, by omega, Nat.le_refl _, by simp; omega⟩
  · intro g h1 h2; have := (owns_new ho g h1).2; have := (owns_new hk g h2).1; omega
  · intro g h1 h2; have := (owns_new ho g h1).2; have := (owns_new hc g h2).1; omega
  · intro e; have := (owns_new ho _ e).2; omega
  · intro e; have := (owns_new hk _ e).1; omega
  · intro e; have := (owns_new hc _ e).1; omega
  · intro e; have := (owns_new ho _ e).2; omega
  · intro e; have := (owns_new hk _ e).2; omega
  · intro e; have := (owns_new hc _ e).2; omega

set_option maxHeartbeats 4000000 in
theorem sSend_any (m : Int) (A : Option Addr) (c : Nat) (L : List TItem) (B : Option Addr) (d : Nat) (K : List Int) (D : Option Addr) (f : Nat) (C : List Int) (w : World)
    (hz : L.length ≤ 900000000) (hnA : A = none → c = 0) (hA : AtItem w A L) (hzK : K.length ≤ 900000000) (hnB : B = none → d = 0) (hcB : K.length ≤ d) (hB : IntsAt w B K) (hzC : C.length ≤ 900000000) (hnD : D = none → f = 0) (hD : IntsAt w D C) :
    Calls Try.prog 48 #[.agg #[.int .i64 m, .slice A L.length c], .agg #[.slice B K.length d, .slice D C.length f]] w (RetRBX w m (sendL m L K C) (sendK m L K C) (sendC m L K C) (sendOk m L K C)) := by
  have hz' : L.length ≤ 9223372036854775807 := by omega
  replace hz : L.length ≤ 1000000000 := by omega
  go_enter Try.func48, Try.ntmps48
  go_wp2_with fail
  have h1 : BoxAt ((((w.alloc (.cells #[.int .i64 m, .slice A L.length c] 26)).alloc (.cells #[.slice B K.length d, .slice D C.length f] 29)).alloc (.cells #[.int .i64 0, .slice none 0 0] 26)).alloc (.cells #[.slice none 0 0, .slice none 0 0] 29)) (w.heap.size) 26 [.int .i64 m, .slice A L.length c] := by simpa using (BoxAt.alloc (BoxAt.alloc (BoxAt.alloc (BoxAt.new w 26 [.int .i64 m, .slice A L.length c]) (.cells #[.slice B K.length d, .slice D C.length f] 29)) (.cells #[.int .i64 0, .slice none 0 0] 26)) (.cells #[.slice none 0 0, .slice none 0 0] 29))
  have h2 : BoxAt ((((w.alloc (.cells #[.int .i64 m, .slice A L.length c] 26)).alloc (.cells #[.slice B K.length d, .slice D C.length f] 29)).alloc (.cells #[.int .i64 0, .slice none 0 0] 26)).alloc (.cells #[.slice none 0 0, .slice none 0 0] 29)) (w.heap.size + 1) 29 [.slice B K.length d, .slice D C.length f] := by simpa using (BoxAt.alloc (BoxAt.alloc (BoxAt.new (w.alloc (.cells #[.int .i64 m, .slice A L.length c] 26)) 29 [.slice B K.length d, .slice D C.length f]) (.cells #[.int .i64 0, .slice none 0 0] 26)) (.cells #[.slice none 0 0, .slice none 0 0] 29))
  have h3 : BoxAt ((((w.alloc (.cells #[.int .i64 m, .slice A L.length c] 26)).alloc (.cells #[.slice B K.length d, .slice D C.length f] 29)).alloc (.cells #[.int .i64 0, .slice none 0 0] 26)).alloc (.cells #[.slice none 0 0, .slice none 0 0] 29)) (w.heap.size + 1 + 1) 26 [.int .i64 0, .slice none 0 0] := by simpa using (BoxAt.alloc (BoxAt.new ((w.alloc (.cells #[.int .i64 m, .slice A L.length c] 26)).alloc (.cells #[.slice B K.length d, .slice D C.length f] 29)) 26 [.int .i64 0, .slice none 0 0]) (.cells #[.slice none 0 0, .slice none 0 0] 29))
  have h4 : BoxAt ((((w.alloc (.cells #[.int .i64 m, .slice A L.length c] 26)).alloc (.cells #[.slice B K.length d, .slice D C.length f] 29)).alloc (.cells #[.int .i64 0, .slice none 0 0] 26)).alloc (.cells #[.slice none 0 0, .slice none 0 0] 29)) (w.heap.size + 1 + 1 + 1) 29 [.slice none 0 0, .slice none 0 0] := by simpa using (BoxAt.new (((w.alloc (.cells #[.int .i64 m, .slice A L.length c] 26)).alloc (.cells #[.slice B K.length d, .slice D C.length f] 29)).alloc (.cells #[.int .i64 0, .slice none 0 0] 26)) 29 [.slice none 0 0, .slice none 0 0])
  have hs0 := (Same.alloc (Same.alloc (Same.alloc (Same.alloc (Same.refl w) (.cells #[.int .i64 m, .slice A L.length c] 26)) (.cells #[.slice B K.length d, .slice D C.length f] 29)) (.cells #[.int .i64 0, .slice none 0 0] 26)) (.cells #[.slice none 0 0, .slice none 0 0] 29))
  generalize ((((w.alloc (.cells #[.int .i64 m, .slice A L.length c] 26)).alloc (.cells #[.slice B K.length d, .slice D C.length f] 29)).alloc (.cells #[.int .i64 0, .slice none 0 0] 26)).alloc (.cells #[.slice none 0 0, .slice none 0 0] 29)) = w0 at *
  have n0 := hs0.size
  have n4 := h4.lt
  refine (l25Run_any m A c L _ hz (hA.same hs0) hnA).mono ?_
  rintro e w1 ⟨A1, c1, rfl, ho, hs1⟩
  have hsa := (Same.refl w1).alloc (.cells #[.int .i64 m, .slice A1 L.length c1] 26)
  have a20 := (h2.same (hs1.trans hsa)).cell 0 rfl
  have a21 := (h2.same (hs1.trans hsa)).cell 1 rfl
  go_wp2_with fail
  refine (l25Copy_any B d K D f C _ (by omega) hnB ((hB.same hs0).same (hs1.trans hsa)) (by omega) hnD ((hD.same hs0).same (hs1.trans hsa))).mono ?_
  rintro e w3 ⟨B1, d1, D1, f1, rfl, hk, hc, sp, hs3⟩
  rw [World.size_alloc] at hk hc
  have st := SendSt.start hs1 ho hs3 hk hc sp
  clear a20 a21 ho hk hc sp hs1 hs3 hsa
  have a10 := (h1.same st.same).cell 0 rfl
  have a11 := (h1.same st.same).cell 1 rfl
  go_wp2_with fail
  generalize w3.alloc (.cells #[.slice B1 K.length d1, .slice D1 C.length f1] 29) = w4 at *
  refine (sRunOk_any m A c L _ hz' ((hA.same hs0).same st.same)).mono ?_
  rintro e w5 ⟨rfl, hs5⟩
  replace st := st.world hs5
  clear hs5 a10 a11
  cases m1 : runOk m L
  · have HN := Lib.hid (send_none (plan_bad (show (runOk m L && bankOk K C) = false by rw [m1]; rfl)))
    have S5 := st.same
    clear m1 st
    have k1 := h1.same S5
    have k2 := h2.same S5
    have s0 := k1.cell 0 rfl
    have s1 := k1.cell 1 rfl
    have s2 := k2.cell 0 rfl
    have s3 := k2.cell 1 rfl
    have nlt1 := k1.lt
    have nlt2 := k2.lt
    have nW := Same.size S5
    go_wp2_with fail
    go_region_held3 (fun x => x.cell? ⟨w.heap.size, 0, none⟩ = some (.int .i64 m) ∧ x.cell? ⟨w.heap.size, 1, none⟩ = some (.slice A L.length c) ∧ x.cell? ⟨(w.heap.size + 1), 0, none⟩ = some (.slice B K.length d) ∧ x.cell? ⟨(w.heap.size + 1), 1, none⟩ = some (.slice D C.length f))
      (first | (with_reducible exact ⟨qa0, qa1, qb0, qb1⟩) | (with_reducible exact ⟨pa0, pa1, pb0, pb1⟩) | (with_reducible exact ⟨ka1_0, ka1_1, kb1_0, kb1_1⟩) | (with_reducible exact ⟨ka0_0, ka0_1, kb0_0, kb0_1⟩) | exact ⟨s0, s1, s2, s3⟩)
      (first | (go_at_call 76; refine (l25Run_any m A c L _ hz ((hA.same hs0).same (Same.trans S5 (Same.refl _).drew)) hnA).mono ?_; rintro e wz0 ⟨A8, c8, rfl, o8, hsz0⟩; (have hz0 := Same.trans (Same.refl _).drew hsz0); (have ka0_ := k1.same hz0); (have kb0_ := k2.same hz0); (have ka0_0 := ka0_.cell 0 rfl); (have ka0_1 := ka0_.cell 1 rfl); (have kb0_0 := kb0_.cell 0 rfl); (have kb0_1 := kb0_.cell 1 rfl)) | (go_at_call 74; refine (l25Copy_any B d K D f C _ (by omega) hnB ((hB.same hs0).same (Same.trans S5 hz0)) (by omega) hnD ((hD.same hs0).same (Same.trans S5 hz0))).mono ?_; rintro e wz1 ⟨B8, d8, D8, f8, rfl, ok8, oc8, sp8, hsz1⟩; (have hz1 := Same.trans hz0 hsz1); (have ka1_ := k1.same hz1); (have kb1_ := k2.same hz1); (have ka1_0 := ka1_.cell 0 rfl); (have ka1_1 := ka1_.cell 1 rfl); (have kb1_0 := kb1_.cell 0 rfl); (have kb1_1 := kb1_.cell 1 rfl); (have kr := (h3.same S5).same hz1); (have kt := (h4.same S5).same hz1); (have kr0 := kr.cell 0 rfl); (have kr1 := kr.cell 1 rfl); (have kt0 := kt.cell 0 rfl); (have kt1 := kt.cell 1 rfl); (have krf0 := kr.frozen 0); (have krf1 := kr.frozen 1); (have ktf0 := kt.frozen 0); (have ktf1 := kt.frozen 1); (have pa := (ka1_.other (k := (w.heap.size + 1 + 1)) (j := 0) (.int .i64 m) (by omega)).other (k := (w.heap.size + 1 + 1)) (j := 1) (.slice A8 L.length c8) (by omega)); (have qa := (pa.other (k := (w.heap.size + 1 + 1 + 1)) (j := 0) (.slice B8 K.length d8) (by omega)).other (k := (w.heap.size + 1 + 1 + 1)) (j := 1) (.slice D8 C.length f8) (by omega)); (have pb := (kb1_.other (k := (w.heap.size + 1 + 1)) (j := 0) (.int .i64 m) (by omega)).other (k := (w.heap.size + 1 + 1)) (j := 1) (.slice A8 L.length c8) (by omega)); (have qb := (pb.other (k := (w.heap.size + 1 + 1 + 1)) (j := 0) (.slice B8 K.length d8) (by omega)).other (k := (w.heap.size + 1 + 1 + 1)) (j := 1) (.slice D8 C.length f8) (by omega)); (have pa0 := pa.cell 0 rfl); (have pa1 := pa.cell 1 rfl); (have pb0 := pb.cell 0 rfl); (have pb1 := pb.cell 1 rfl); (have qa0 := qa.cell 0 rfl); (have qa1 := qa.cell 1 rfl); (have qb0 := qb.cell 0 rfl); (have qb1 := qb.cell 1 rfl)))
    have nz : _ ≤ wz1.heap.size := Same.size hz1
    have F := laid4 (w := w) kr kt (by omega) (base := w0.heap.size) (by omega) (by omega) (by omega) (by omega) ((hs0.trans S5).trans hz1) ((o8.rebase (by first | exact nW | simpa using nW)).same hsz1) (ok8.base (by have := Same.size hz0; omega)) (oc8.base (by have := Same.size hz0; omega)) (.int .i64 m) (.slice A8 L.length c8) (.slice B8 K.length d8) (.slice D8 C.length f8)
    clear kr kt s0 s1 s2 s3 ka0_ kb0_ ka0_0 ka0_1 kb0_0 kb0_1 ka1_ kb1_ ka1_0 ka1_1 kb1_0 kb1_1 kr0 kr1 kt0 kt1 krf0 krf1 ktf0 ktf1 pa pb qa qb pa0 pa1 pb0 pb1 qa0 qa1 qb0 qb1
    have F0 := F.run.cell 0 rfl
    have F1 := F.run.cell 1 rfl
    have F2 := F.bank.cell 0 rfl
    have F3 := F.bank.cell 1 rfl
    unfold lay4 at F0 F1 F2 F3
    go_wp2
    show bodyPost _ _ _ _ _ _
    rw [HN.out.1, HN.out.2.1, HN.out.2.2.1, HN.out.2.2.2]
    exact bodyPost_ret (v := .tuple #[.agg #[(.int .i64 m), (.slice A8 L.length c8)], .agg #[(.slice B8 K.length d8), (.slice D8 C.length f8)], .bool false]) (by simp [results, Try.results48, go_sem, F0, F1, F2, F3]) rfl ⟨_, _, _, _, _, _, rfl, F.items.rebase n0, F.keys.base n0, F.cents.base n0, Sep.new o8 ok8 (Nat.le_refl _), Sep.new o8 oc8 (Nat.le_refl _), sp8, F.same⟩
  · have a20 := (h2.same st.same).cell 0 rfl
    have a21 := (h2.same st.same).cell 1 rfl
    go_wp2_with fail
    refine (sBankOk_any B D d f K C _ (by omega) (by omega) hcB ((hB.same hs0).same st.same) ((hD.same hs0).same st.same)).mono ?_
    rintro e w6 ⟨rfl, hs6⟩
    replace st := st.world hs6
    clear hs6 a20 a21
    cases m2 : bankOk K C
    · have HN := Lib.hid (send_none (plan_bad (show (runOk m L && bankOk K C) = false by rw [m1, m2]; rfl)))
      have S6 := st.same
      clear m1 m2 st
      have k1 := h1.same S6
      have k2 := h2.same S6
      have s0 := k1.cell 0 rfl
      have s1 := k1.cell 1 rfl
      have s2 := k2.cell 0 rfl
      have s3 := k2.cell 1 rfl
      have nlt1 := k1.lt
      have nlt2 := k2.lt
      have nW := Same.size S6
      go_wp2_with fail
      go_region_held3 (fun x => x.cell? ⟨w.heap.size, 0, none⟩ = some (.int .i64 m) ∧ x.cell? ⟨w.heap.size, 1, none⟩ = some (.slice A L.length c) ∧ x.cell? ⟨(w.heap.size + 1), 0, none⟩ = some (.slice B K.length d) ∧ x.cell? ⟨(w.heap.size + 1), 1, none⟩ = some (.slice D C.length f))
        (first | (with_reducible exact ⟨qa0, qa1, qb0, qb1⟩) | (with_reducible exact ⟨pa0, pa1, pb0, pb1⟩) | (with_reducible exact ⟨ka1_0, ka1_1, kb1_0, kb1_1⟩) | (with_reducible exact ⟨ka0_0, ka0_1, kb0_0, kb0_1⟩) | exact ⟨s0, s1, s2, s3⟩)
        (first | (go_at_call 76; refine (l25Run_any m A c L _ hz ((hA.same hs0).same (Same.trans S6 (Same.refl _).drew)) hnA).mono ?_; rintro e wz0 ⟨A8, c8, rfl, o8, hsz0⟩; (have hz0 := Same.trans (Same.refl _).drew hsz0); (have ka0_ := k1.same hz0); (have kb0_ := k2.same hz0); (have ka0_0 := ka0_.cell 0 rfl); (have ka0_1 := ka0_.cell 1 rfl); (have kb0_0 := kb0_.cell 0 rfl); (have kb0_1 := kb0_.cell 1 rfl)) | (go_at_call 74; refine (l25Copy_any B d K D f C _ (by omega) hnB ((hB.same hs0).same (Same.trans S6 hz0)) (by omega) hnD ((hD.same hs0).same (Same.trans S6 hz0))).mono ?_; rintro e wz1 ⟨B8, d8, D8, f8, rfl, ok8, oc8, sp8, hsz1⟩; (have hz1 := Same.trans hz0 hsz1); (have ka1_ := k1.same hz1); (have kb1_ := k2.same hz1); (have ka1_0 := ka1_.cell 0 rfl); (have ka1_1 := ka1_.cell 1 rfl); (have kb1_0 := kb1_.cell 0 rfl); (have kb1_1 := kb1_.cell 1 rfl); (have kr := (h3.same S6).same hz1); (have kt := (h4.same S6).same hz1); (have kr0 := kr.cell 0 rfl); (have kr1 := kr.cell 1 rfl); (have kt0 := kt.cell 0 rfl); (have kt1 := kt.cell 1 rfl); (have krf0 := kr.frozen 0); (have krf1 := kr.frozen 1); (have ktf0 := kt.frozen 0); (have ktf1 := kt.frozen 1); (have pa := (ka1_.other (k := (w.heap.size + 1 + 1)) (j := 0) (.int .i64 m) (by omega)).other (k := (w.heap.size + 1 + 1)) (j := 1) (.slice A8 L.length c8) (by omega)); (have qa := (pa.other (k := (w.heap.size + 1 + 1 + 1)) (j := 0) (.slice B8 K.length d8) (by omega)).other (k := (w.heap.size + 1 + 1 + 1)) (j := 1) (.slice D8 C.length f8) (by omega)); (have pb := (kb1_.other (k := (w.heap.size + 1 + 1)) (j := 0) (.int .i64 m) (by omega)).other (k := (w.heap.size + 1 + 1)) (j := 1) (.slice A8 L.length c8) (by omega)); (have qb := (pb.other (k := (w.heap.size + 1 + 1 + 1)) (j := 0) (.slice B8 K.length d8) (by omega)).other (k := (w.heap.size + 1 + 1 + 1)) (j := 1) (.slice D8 C.length f8) (by omega)); (have pa0 := pa.cell 0 rfl); (have pa1 := pa.cell 1 rfl); (have pb0 := pb.cell 0 rfl); (have pb1 := pb.cell 1 rfl); (have qa0 := qa.cell 0 rfl); (have qa1 := qa.cell 1 rfl); (have qb0 := qb.cell 0 rfl); (have qb1 := qb.cell 1 rfl)))
      have nz : _ ≤ wz1.heap.size := Same.size hz1
      have F := laid4 (w := w) kr kt (by omega) (base := w0.heap.size) (by omega) (by omega) (by omega) (by omega) ((hs0.trans S6).trans hz1) ((o8.rebase (by first | exact nW | simpa using nW)).same hsz1) (ok8.base (by have := Same.size hz0; omega)) (oc8.base (by have := Same.size hz0; omega)) (.int .i64 m) (.slice A8 L.length c8) (.slice B8 K.length d8) (.slice D8 C.length f8)
      clear kr kt s0 s1 s2 s3 ka0_ kb0_ ka0_0 ka0_1 kb0_0 kb0_1 ka1_ kb1_ ka1_0 ka1_1 kb1_0 kb1_1 kr0 kr1 kt0 kt1 krf0 krf1 ktf0 ktf1 pa pb qa qb pa0 pa1 pb0 pb1 qa0 qa1 qb0 qb1
      have F0 := F.run.cell 0 rfl
      have F1 := F.run.cell 1 rfl
      have F2 := F.bank.cell 0 rfl
      have F3 := F.bank.cell 1 rfl
      unfold lay4 at F0 F1 F2 F3
      go_wp2
      show bodyPost _ _ _ _ _ _
      rw [HN.out.1, HN.out.2.1, HN.out.2.2.1, HN.out.2.2.2]
      exact bodyPost_ret (v := .tuple #[.agg #[(.int .i64 m), (.slice A8 L.length c8)], .agg #[(.slice B8 K.length d8), (.slice D8 C.length f8)], .bool false]) (by simp [results, Try.results48, go_sem, F0, F1, F2, F3]) rfl ⟨_, _, _, _, _, _, rfl, F.items.rebase n0, F.keys.base n0, F.cents.base n0, Sep.new o8 ok8 (Nat.le_refl _), Sep.new o8 oc8 (Nat.le_refl _), sp8, F.same⟩
    · go_wp2_with fail
      refine (l25Send_any m L K C _ _ _ _ w0 _ st m1 m2).mono ?_
      obtain ⟨L9, hL9⟩ : ∃ L9, L9 = sendL m L K C := ⟨_, rfl⟩
      obtain ⟨K9, hK9⟩ : ∃ K9, K9 = sendK m L K C := ⟨_, rfl⟩
      obtain ⟨C9, hC9⟩ : ∃ C9, C9 = sendC m L K C := ⟨_, rfl⟩
      have hl9 : L9.length ≤ 1000000000 := by rw [hL9, sendL_len]; omega
      have hk9 : K9.length ≤ 1000000000 := by rw [hK9]; have := sendK_len m L K C; omega
      have hc9 : C9.length ≤ 1000000000 := by rw [hC9]; have := sendC_len m L K C; omega
      rintro e w7 ⟨⟨A9, c9, B9, d9, D9, f9⟩, rfl, st9⟩
      rw [← hL9, ← hK9, ← hC9] at st9
      have HL9 := Lib.hid hL9
      have HK9 := Lib.hid hK9
      have HC9 := Lib.hid hC9
      have S7 := st9.same
      clear hL9 hK9 hC9 st m1 m2
      cases m3 : sendOk m L K C
      · have HN := Lib.hid (send_none (show plan m L K C = none by unfold sendOk at m3; cases h : plan m L K C with | none => rfl | some x => rw [h] at m3; cases m3))
        clear m3 st9
        have k1 := h1.same S7
        have k2 := h2.same S7
        have s0 := k1.cell 0 rfl
        have s1 := k1.cell 1 rfl
        have s2 := k2.cell 0 rfl
        have s3 := k2.cell 1 rfl
        have nlt1 := k1.lt
        have nlt2 := k2.lt
        have nW := Same.size S7
        go_wp2_with fail
        go_region_held3 (fun x => x.cell? ⟨w.heap.size, 0, none⟩ = some (.int .i64 m) ∧ x.cell? ⟨w.heap.size, 1, none⟩ = some (.slice A L.length c) ∧ x.cell? ⟨(w.heap.size + 1), 0, none⟩ = some (.slice B K.length d) ∧ x.cell? ⟨(w.heap.size + 1), 1, none⟩ = some (.slice D C.length f))
          (first | (with_reducible exact ⟨qa0, qa1, qb0, qb1⟩) | (with_reducible exact ⟨pa0, pa1, pb0, pb1⟩) | (with_reducible exact ⟨ka1_0, ka1_1, kb1_0, kb1_1⟩) | (with_reducible exact ⟨ka0_0, ka0_1, kb0_0, kb0_1⟩) | exact ⟨s0, s1, s2, s3⟩)
          (first | (go_at_call 76; refine (l25Run_any m A c L _ hz ((hA.same hs0).same (Same.trans S7 (Same.refl _).drew)) hnA).mono ?_; rintro e wz0 ⟨A8, c8, rfl, o8, hsz0⟩; (have hz0 := Same.trans (Same.refl _).drew hsz0); (have ka0_ := k1.same hz0); (have kb0_ := k2.same hz0); (have ka0_0 := ka0_.cell 0 rfl); (have ka0_1 := ka0_.cell 1 rfl); (have kb0_0 := kb0_.cell 0 rfl); (have kb0_1 := kb0_.cell 1 rfl)) | (go_at_call 74; refine (l25Copy_any B d K D f C _ (by omega) hnB ((hB.same hs0).same (Same.trans S7 hz0)) (by omega) hnD ((hD.same hs0).same (Same.trans S7 hz0))).mono ?_; rintro e wz1 ⟨B8, d8, D8, f8, rfl, ok8, oc8, sp8, hsz1⟩; (have hz1 := Same.trans hz0 hsz1); (have ka1_ := k1.same hz1); (have kb1_ := k2.same hz1); (have ka1_0 := ka1_.cell 0 rfl); (have ka1_1 := ka1_.cell 1 rfl); (have kb1_0 := kb1_.cell 0 rfl); (have kb1_1 := kb1_.cell 1 rfl); (have kr := (h3.same S7).same hz1); (have kt := (h4.same S7).same hz1); (have kr0 := kr.cell 0 rfl); (have kr1 := kr.cell 1 rfl); (have kt0 := kt.cell 0 rfl); (have kt1 := kt.cell 1 rfl); (have krf0 := kr.frozen 0); (have krf1 := kr.frozen 1); (have ktf0 := kt.frozen 0); (have ktf1 := kt.frozen 1); (have pa := (ka1_.other (k := (w.heap.size + 1 + 1)) (j := 0) (.int .i64 m) (by omega)).other (k := (w.heap.size + 1 + 1)) (j := 1) (.slice A8 L.length c8) (by omega)); (have qa := (pa.other (k := (w.heap.size + 1 + 1 + 1)) (j := 0) (.slice B8 K.length d8) (by omega)).other (k := (w.heap.size + 1 + 1 + 1)) (j := 1) (.slice D8 C.length f8) (by omega)); (have pb := (kb1_.other (k := (w.heap.size + 1 + 1)) (j := 0) (.int .i64 m) (by omega)).other (k := (w.heap.size + 1 + 1)) (j := 1) (.slice A8 L.length c8) (by omega)); (have qb := (pb.other (k := (w.heap.size + 1 + 1 + 1)) (j := 0) (.slice B8 K.length d8) (by omega)).other (k := (w.heap.size + 1 + 1 + 1)) (j := 1) (.slice D8 C.length f8) (by omega)); (have pa0 := pa.cell 0 rfl); (have pa1 := pa.cell 1 rfl); (have pb0 := pb.cell 0 rfl); (have pb1 := pb.cell 1 rfl); (have qa0 := qa.cell 0 rfl); (have qa1 := qa.cell 1 rfl); (have qb0 := qb.cell 0 rfl); (have qb1 := qb.cell 1 rfl)))
        have nz : _ ≤ wz1.heap.size := Same.size hz1
        have F := laid4 (w := w) kr kt (by omega) (base := w0.heap.size) (by omega) (by omega) (by omega) (by omega) ((hs0.trans S7).trans hz1) ((o8.rebase (by first | exact nW | simpa using nW)).same hsz1) (ok8.base (by have := Same.size hz0; omega)) (oc8.base (by have := Same.size hz0; omega)) (.int .i64 m) (.slice A8 L.length c8) (.slice B8 K.length d8) (.slice D8 C.length f8)
        clear kr kt s0 s1 s2 s3 ka0_ kb0_ ka0_0 ka0_1 kb0_0 kb0_1 ka1_ kb1_ ka1_0 ka1_1 kb1_0 kb1_1 kr0 kr1 kt0 kt1 krf0 krf1 ktf0 ktf1 pa pb qa qb pa0 pa1 pb0 pb1 qa0 qa1 qb0 qb1
        have F0 := F.run.cell 0 rfl
        have F1 := F.run.cell 1 rfl
        have F2 := F.bank.cell 0 rfl
        have F3 := F.bank.cell 1 rfl
        unfold lay4 at F0 F1 F2 F3
        go_wp2
        show bodyPost _ _ _ _ _ _
        rw [HN.out.1, HN.out.2.1, HN.out.2.2.1, HN.out.2.2.2]
        exact bodyPost_ret (v := .tuple #[.agg #[(.int .i64 m), (.slice A8 L.length c8)], .agg #[(.slice B8 K.length d8), (.slice D8 C.length f8)], .bool false]) (by simp [results, Try.results48, go_sem, F0, F1, F2, F3]) rfl ⟨_, _, _, _, _, _, rfl, F.items.rebase n0, F.keys.base n0, F.cents.base n0, Sep.new o8 ok8 (Nat.le_refl _), Sep.new o8 oc8 (Nat.le_refl _), sp8, F.same⟩
      · have HO := Lib.hid m3
        have hx : BoxAt w7 w1.heap.size 26 [.int .i64 m, .slice A9 L9.length c9] := st9.run
        have hy : BoxAt w7 w3.heap.size 29 [.slice B9 K9.length d9, .slice D9 C9.length f9] := st9.bank
        have oi : OwnItem w7 w0.heap.size (.slice A9 L9.length c9) L9 := st9.own.it
        have ok : OwnI w7 w0.heap.size (.slice B9 K9.length d9) K9 := st9.own.ks
        have oc : OwnI w7 w0.heap.size (.slice D9 C9.length f9) C9 := st9.own.cs
        have x1 := st9.l1
        have x2 := st9.l2
        clear m3 st9
        have s0 := hx.cell 0 rfl
        have s1 := hx.cell 1 rfl
        have s2 := hy.cell 0 rfl
        have s3 := hy.cell 1 rfl
        have nlt1 := hx.lt
        have nlt2 := hy.lt
        have nW := Same.size S7
        go_wp2_with fail
        go_region_held3 (fun x => x.cell? ⟨w1.heap.size, 0, none⟩ = some (.int .i64 m) ∧ x.cell? ⟨w1.heap.size, 1, none⟩ = some (.slice A9 L9.length c9) ∧ x.cell? ⟨w3.heap.size, 0, none⟩ = some (.slice B9 K9.length d9) ∧ x.cell? ⟨w3.heap.size, 1, none⟩ = some (.slice D9 C9.length f9))
          (first | (with_reducible exact ⟨qa0, qa1, qb0, qb1⟩) | (with_reducible exact ⟨pa0, pa1, pb0, pb1⟩) | (with_reducible exact ⟨ka1_0, ka1_1, kb1_0, kb1_1⟩) | (with_reducible exact ⟨ka0_0, ka0_1, kb0_0, kb0_1⟩) | exact ⟨s0, s1, s2, s3⟩)
          (first | (go_at_call 76; refine (l25Run_any m A9 c9 L9 _ (by omega) ((OwnR.recs cItem_len oi).same (Same.refl _).drew) (OwnR.nil_cap2 oi)).mono ?_; rintro e wz0 ⟨A8, c8, rfl, o8, hsz0⟩; (have hz0 := Same.trans (Same.refl _).drew hsz0); (have ka0_ := hx.same hz0); (have kb0_ := hy.same hz0); (have ka0_0 := ka0_.cell 0 rfl); (have ka0_1 := ka0_.cell 1 rfl); (have kb0_0 := kb0_.cell 0 rfl); (have kb0_1 := kb0_.cell 1 rfl)) | (go_at_call 74; refine (l25Copy_any B9 d9 K9 D9 f9 C9 _ (by omega) (OwnI.nil_cap ok) ((OwnI.ints ok).same hz0) (by omega) (OwnI.nil_cap oc) ((OwnI.ints oc).same hz0)).mono ?_; rintro e wz1 ⟨B8, d8, D8, f8, rfl, ok8, oc8, sp8, hsz1⟩; (have hz1 := Same.trans hz0 hsz1); (have ka1_ := hx.same hz1); (have kb1_ := hy.same hz1); (have ka1_0 := ka1_.cell 0 rfl); (have ka1_1 := ka1_.cell 1 rfl); (have kb1_0 := kb1_.cell 0 rfl); (have kb1_1 := kb1_.cell 1 rfl); (have kr := (h3.same S7).same hz1); (have kt := (h4.same S7).same hz1); (have kr0 := kr.cell 0 rfl); (have kr1 := kr.cell 1 rfl); (have kt0 := kt.cell 0 rfl); (have kt1 := kt.cell 1 rfl); (have krf0 := kr.frozen 0); (have krf1 := kr.frozen 1); (have ktf0 := kt.frozen 0); (have ktf1 := kt.frozen 1); (have pa := (ka1_.other (k := (w.heap.size + 1 + 1)) (j := 0) (.int .i64 m) (by omega)).other (k := (w.heap.size + 1 + 1)) (j := 1) (.slice A8 L9.length c8) (by omega)); (have qa := (pa.other (k := (w.heap.size + 1 + 1 + 1)) (j := 0) (.slice B8 K9.length d8) (by omega)).other (k := (w.heap.size + 1 + 1 + 1)) (j := 1) (.slice D8 C9.length f8) (by omega)); (have pb := (kb1_.other (k := (w.heap.size + 1 + 1)) (j := 0) (.int .i64 m) (by omega)).other (k := (w.heap.size + 1 + 1)) (j := 1) (.slice A8 L9.length c8) (by omega)); (have qb := (pb.other (k := (w.heap.size + 1 + 1 + 1)) (j := 0) (.slice B8 K9.length d8) (by omega)).other (k := (w.heap.size + 1 + 1 + 1)) (j := 1) (.slice D8 C9.length f8) (by omega)); (have pa0 := pa.cell 0 rfl); (have pa1 := pa.cell 1 rfl); (have pb0 := pb.cell 0 rfl); (have pb1 := pb.cell 1 rfl); (have qa0 := qa.cell 0 rfl); (have qa1 := qa.cell 1 rfl); (have qb0 := qb.cell 0 rfl); (have qb1 := qb.cell 1 rfl)))
        have nz : _ ≤ wz1.heap.size := Same.size hz1
        have F := laid4 (w := w) kr kt (by omega) (base := w0.heap.size) (by omega) (by omega) (by omega) (by omega) ((hs0.trans S7).trans hz1) ((o8.rebase (by first | exact nW | simpa using nW)).same hsz1) (ok8.base (by have := Same.size hz0; omega)) (oc8.base (by have := Same.size hz0; omega)) (.int .i64 m) (.slice A8 L9.length c8) (.slice B8 K9.length d8) (.slice D8 C9.length f8)
        clear kr kt s0 s1 s2 s3 ka0_ kb0_ ka0_0 ka0_1 kb0_0 kb0_1 ka1_ kb1_ ka1_0 ka1_1 kb1_0 kb1_1 kr0 kr1 kt0 kt1 krf0 krf1 ktf0 ktf1 pa pb qa qb pa0 pa1 pb0 pb1 qa0 qa1 qb0 qb1
        have F0 := F.run.cell 0 rfl
        have F1 := F.run.cell 1 rfl
        have F2 := F.bank.cell 0 rfl
        have F3 := F.bank.cell 1 rfl
        unfold lay4 at F0 F1 F2 F3
        go_wp2
        show bodyPost _ _ _ _ _ _
        rw [← HL9.out, ← HK9.out, ← HC9.out, HO.out]
        exact bodyPost_ret (v := .tuple #[.agg #[(.int .i64 m), (.slice A8 L9.length c8)], .agg #[(.slice B8 K9.length d8), (.slice D8 C9.length f8)], .bool true]) (by simp [results, Try.results48, go_sem, F0, F1, F2, F3]) rfl ⟨_, _, _, _, _, _, rfl, F.items.rebase n0, F.keys.base n0, F.cents.base n0, Sep.new o8 ok8 (Nat.le_refl _), Sep.new o8 oc8 (Nat.le_refl _), sp8, F.same⟩
end Go.Proofs.Ytccgbilgfnoheaa
