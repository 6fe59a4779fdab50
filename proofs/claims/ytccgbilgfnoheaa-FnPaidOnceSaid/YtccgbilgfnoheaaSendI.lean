/-
  The program's SendNext.
-/
import Derived.Test.YtccgbilgfnoheaaPlanSend
import Derived.Test.YtccgbilgfnoheaaAcceptI
import Derived.Deep.Cut
import Derived.Deep.CutRange
namespace Go.Proofs.Ytccgbilgfnoheaa
open Go.RowKit
set_option linter.unusedVariables false
set_option linter.unnecessarySimpa false

theorem opnB_any (f0 f1 f2 : Int) (w : World) :
    Calls Try.prog 58 #[.agg #[.int .i64 f0, .int .i64 f1, .int .i64 f2]] w fun e w' => e = .returned (.bool (isOpn (f0, f1, f2))) ∧ Same w w' := by
  go_enter Try.func58, Try.ntmps58
  go_wp2
  go_ret
  exact ⟨ret_bool (by simp [isOpn]), (Same.refl w).alloc _⟩

set_option maxHeartbeats 400000 in
theorem indexOpn_any (A : Option Addr) (c : Nat) (L : List TItem) (w : World) (hz : L.length ≤ 9223372036854775807) (hA : AtItem w A L) :
    Calls Try.prog 57 #[.slice A L.length c, .func (.func 58) #[] #[]] w fun e w' => ∃ r : Int, e = .returned (.int .i64 r) ∧ Found (fun x => isOpn x) L r ∧ Same w w' := by
  go_enter Try.func57, Try.ntmps57
  go_wp2
  go_loopw [8] (fun i wr => ∃ k : Nat, k ≤ L.length ∧ i = .int .i64 k ∧ Hid ((L.take k).all (fun x => !isOpn x) = true) ∧ Same w wr) (fun i _ => L.length - (intOf i).toNat)
  case atStart => exact ⟨0, Nat.zero_le _, rfl, by simp [Hid], Same.refl _⟩
  case round =>
    obtain ⟨k, hk, rfl, hall, hs⟩ := hrel
    by_cases hlt : k < L.length
    · obtain ⟨b, off, x, rfl, hc, HX, _⟩ := (hA.same hs).at_ hlt
      clear hA
      obtain ⟨f0, f1, f2⟩ := x
      have c0 := hc 0 _ rfl
      have c1 := hc 1 _ rfl
      have c2 := hc 2 _ rfl
      simp only [Nat.add_zero] at c0
      clear hc

      go_wp2_with fail
      refine (opnB_any f0 f1 f2 _).mono ?_
      rintro e w1 ⟨rfl, hs1⟩
      have hss := hs.trans hs1
      clear hs hs1
      cases hp : isOpn (f0, f1, f2)
      · have HP := Lib.hid (all_take_succ hall.out HX.out (show (!isOpn (f0, f1, f2)) = true by rw [hp]; rfl))
        go_wp2
        go_roundw
        case rel => exact ⟨k + 1, hlt, by go_num, HP, hss⟩
        case measure => simp [intOf]; omega
      · have HP := Lib.hid (show Found (fun x => isOpn x) L k from .inr ⟨k, _, rfl, HX.out, hp, hall.out⟩)
        go_wp2
        go_ret
        exact ⟨_, rfl, HP.out, hss⟩
    · have hl := hall.out
      rw [show k = L.length by omega, List.take_length] at hl
      have HP := Lib.hid hl
      clear hl hall
      go_wp2
      go_ret
      exact ⟨_, rfl, .inl ⟨rfl, HP.out⟩, hs⟩
set_option maxHeartbeats 4000000 in
theorem iSend_any (m : Int) (A : Option Addr) (c : Nat) (L : List TItem) (B : Option Addr) (d : Nat) (K : List Int) (D : Option Addr) (f : Nat) (C : List Int) (w : World)
    (hz : L.length ≤ 1000000000) (hcap : L.length ≤ c) (hA : AtItem w A L) (hzK : K.length ≤ 900000000) (hB : IntsAt w B K) (hwK : Wide K) (hzC : C.length ≤ 900000000) (hD : IntsAt w D C) :
    Calls Try.prog 21 #[.agg #[.int .i64 m, .slice A L.length c], .agg #[.slice B K.length d, .slice D C.length f]] w (RetRBX w m (sendL m L K C) (sendK m L K C) (sendC m L K C) (sendOk m L K C)) := by
  have hz' : L.length ≤ 9223372036854775807 := by omega
  have HWK := Lib.hid hwK
  clear hwK
  go_enter Try.func21, Try.ntmps21
  go_wp2_with fail
  have h1 : BoxAt ((((w.alloc (.cells #[.int .i64 m, .slice A L.length c] 26)).alloc (.cells #[.slice B K.length d, .slice D C.length f] 29)).alloc (.cells #[.int .i64 0, .slice none 0 0] 26)).alloc (.cells #[.slice none 0 0, .slice none 0 0] 29)) (w.heap.size) 26 [.int .i64 m, .slice A L.length c] := by simpa using (BoxAt.alloc (BoxAt.alloc (BoxAt.alloc (BoxAt.new w 26 [.int .i64 m, .slice A L.length c]) (.cells #[.slice B K.length d, .slice D C.length f] 29)) (.cells #[.int .i64 0, .slice none 0 0] 26)) (.cells #[.slice none 0 0, .slice none 0 0] 29))
  have h2 : BoxAt ((((w.alloc (.cells #[.int .i64 m, .slice A L.length c] 26)).alloc (.cells #[.slice B K.length d, .slice D C.length f] 29)).alloc (.cells #[.int .i64 0, .slice none 0 0] 26)).alloc (.cells #[.slice none 0 0, .slice none 0 0] 29)) (w.heap.size + 1) 29 [.slice B K.length d, .slice D C.length f] := by simpa using (BoxAt.alloc (BoxAt.alloc (BoxAt.new (w.alloc (.cells #[.int .i64 m, .slice A L.length c] 26)) 29 [.slice B K.length d, .slice D C.length f]) (.cells #[.int .i64 0, .slice none 0 0] 26)) (.cells #[.slice none 0 0, .slice none 0 0] 29))
  have h3 : BoxAt ((((w.alloc (.cells #[.int .i64 m, .slice A L.length c] 26)).alloc (.cells #[.slice B K.length d, .slice D C.length f] 29)).alloc (.cells #[.int .i64 0, .slice none 0 0] 26)).alloc (.cells #[.slice none 0 0, .slice none 0 0] 29)) (w.heap.size + 1 + 1) 26 [.int .i64 0, .slice none 0 0] := by simpa using (BoxAt.alloc (BoxAt.new ((w.alloc (.cells #[.int .i64 m, .slice A L.length c] 26)).alloc (.cells #[.slice B K.length d, .slice D C.length f] 29)) 26 [.int .i64 0, .slice none 0 0]) (.cells #[.slice none 0 0, .slice none 0 0] 29))
  have h4 : BoxAt ((((w.alloc (.cells #[.int .i64 m, .slice A L.length c] 26)).alloc (.cells #[.slice B K.length d, .slice D C.length f] 29)).alloc (.cells #[.int .i64 0, .slice none 0 0] 26)).alloc (.cells #[.slice none 0 0, .slice none 0 0] 29)) (w.heap.size + 1 + 1 + 1) 29 [.slice none 0 0, .slice none 0 0] := by simpa using (BoxAt.new (((w.alloc (.cells #[.int .i64 m, .slice A L.length c] 26)).alloc (.cells #[.slice B K.length d, .slice D C.length f] 29)).alloc (.cells #[.int .i64 0, .slice none 0 0] 26)) 29 [.slice none 0 0, .slice none 0 0])
  have hs0 := (Same.alloc (Same.alloc (Same.alloc (Same.alloc (Same.refl w) (.cells #[.int .i64 m, .slice A L.length c] 26)) (.cells #[.slice B K.length d, .slice D C.length f] 29)) (.cells #[.int .i64 0, .slice none 0 0] 26)) (.cells #[.slice none 0 0, .slice none 0 0] 29))
  generalize ((((w.alloc (.cells #[.int .i64 m, .slice A L.length c] 26)).alloc (.cells #[.slice B K.length d, .slice D C.length f] 29)).alloc (.cells #[.int .i64 0, .slice none 0 0] 26)).alloc (.cells #[.slice none 0 0, .slice none 0 0] 29)) = w0 at *
  have n0 := hs0.size
  have n4 := h4.lt
  have a10 := h1.cell 1 rfl
  refine (indexOpn_any A c L _ hz' (hA.same hs0)).mono ?_
  rintro e w1 ⟨r, rfl, hfound, hs1⟩
  have HFO := Lib.hid hfound
  have hr : -1 ≤ r ∧ r < 1000000000 := by
    rcases hfound with ⟨rfl, _⟩ | ⟨k, x, rfl, hx, _⟩
    · omega
    · have := (List.getElem?_eq_some_iff.1 hx).1; omega
  clear hfound a10
  have a10 := (h1.same hs1).cell 0 rfl
  have a11 := (h1.same hs1).cell 1 rfl
  go_wp2_with fail
  refine (iRunOk_any m A c L _ hz' hcap ((hA.same hs0).same hs1)).mono ?_
  rintro e w2 ⟨rfl, hs2⟩
  replace hs1 := hs1.trans hs2
  clear hs2 a10 a11
  cases m1 : runOk m L
  · have HN := Lib.hid (send_none (plan_bad (show (runOk m L && bankOk K C) = false by rw [m1]; rfl)))
    clear m1
    have k1 := h1.same hs1
    have k2 := h2.same hs1
    have s0 := k1.cell 0 rfl
    have s1 := k1.cell 1 rfl
    have s2 := k2.cell 0 rfl
    have s3 := k2.cell 1 rfl
    have nlt1 := k1.lt
    have nlt2 := k2.lt
    have nW := Same.size hs1
    go_wp2_with fail
    go_region_held3 (fun x => x.cell? ⟨w.heap.size, 0, none⟩ = some (.int .i64 m) ∧ x.cell? ⟨w.heap.size, 1, none⟩ = some (.slice A L.length c) ∧ x.cell? ⟨(w.heap.size + 1), 0, none⟩ = some (.slice B K.length d) ∧ x.cell? ⟨(w.heap.size + 1), 1, none⟩ = some (.slice D C.length f))
      (first | (with_reducible exact ⟨qa0, qa1, qb0, qb1⟩) | (with_reducible exact ⟨pa0, pa1, pb0, pb1⟩) | (with_reducible exact ⟨ka1_0, ka1_1, kb1_0, kb1_1⟩) | (with_reducible exact ⟨ka0_0, ka0_1, kb0_0, kb0_1⟩) | exact ⟨s0, s1, s2, s3⟩)
      (first | (go_at_call 53; refine (copyRun_any m A c L _ hz ((hA.same hs0).same (Same.trans hs1 (Same.refl _).drew))).mono ?_; rintro e wz0 ⟨A8, c8, rfl, o8, hsz0⟩; (have hz0 := Same.trans (Same.refl _).drew hsz0); (have ka0_ := k1.same hz0); (have kb0_ := k2.same hz0); (have ka0_0 := ka0_.cell 0 rfl); (have ka0_1 := ka0_.cell 1 rfl); (have kb0_0 := kb0_.cell 0 rfl); (have kb0_1 := kb0_.cell 1 rfl)) | (go_at_call 54; refine (copyBank_any B d K D f C _ (by omega) ((hB.same hs0).same (Same.trans hs1 hz0)) (by omega) ((hD.same hs0).same (Same.trans hs1 hz0))).mono ?_; rintro e wz1 ⟨B8, d8, D8, f8, rfl, ok8, oc8, sp8, hsz1⟩; (have hz1 := Same.trans hz0 hsz1); (have ka1_ := k1.same hz1); (have kb1_ := k2.same hz1); (have ka1_0 := ka1_.cell 0 rfl); (have ka1_1 := ka1_.cell 1 rfl); (have kb1_0 := kb1_.cell 0 rfl); (have kb1_1 := kb1_.cell 1 rfl); (have kr := (h3.same hs1).same hz1); (have kt := (h4.same hs1).same hz1); (have kr0 := kr.cell 0 rfl); (have kr1 := kr.cell 1 rfl); (have kt0 := kt.cell 0 rfl); (have kt1 := kt.cell 1 rfl); (have krf0 := kr.frozen 0); (have krf1 := kr.frozen 1); (have ktf0 := kt.frozen 0); (have ktf1 := kt.frozen 1); (have pa := (ka1_.other (k := (w.heap.size + 1 + 1)) (j := 0) (.int .i64 m) (by omega)).other (k := (w.heap.size + 1 + 1)) (j := 1) (.slice A8 L.length c8) (by omega)); (have qa := (pa.other (k := (w.heap.size + 1 + 1 + 1)) (j := 0) (.slice B8 K.length d8) (by omega)).other (k := (w.heap.size + 1 + 1 + 1)) (j := 1) (.slice D8 C.length f8) (by omega)); (have pb := (kb1_.other (k := (w.heap.size + 1 + 1)) (j := 0) (.int .i64 m) (by omega)).other (k := (w.heap.size + 1 + 1)) (j := 1) (.slice A8 L.length c8) (by omega)); (have qb := (pb.other (k := (w.heap.size + 1 + 1 + 1)) (j := 0) (.slice B8 K.length d8) (by omega)).other (k := (w.heap.size + 1 + 1 + 1)) (j := 1) (.slice D8 C.length f8) (by omega)); (have pa0 := pa.cell 0 rfl); (have pa1 := pa.cell 1 rfl); (have pb0 := pb.cell 0 rfl); (have pb1 := pb.cell 1 rfl); (have qa0 := qa.cell 0 rfl); (have qa1 := qa.cell 1 rfl); (have qb0 := qb.cell 0 rfl); (have qb1 := qb.cell 1 rfl)))
    have nz : _ ≤ wz1.heap.size := Same.size hz1
    have F := laid4 (w := w) kr kt (by omega) (base := w0.heap.size) (by omega) (by omega) (by omega) (by omega) ((hs0.trans hs1).trans hz1) ((o8.rebase (by first | exact nW | simpa using nW)).same hsz1) (ok8.base (by have := Same.size hz0; omega)) (oc8.base (by have := Same.size hz0; omega)) (.int .i64 m) (.slice A8 L.length c8) (.slice B8 K.length d8) (.slice D8 C.length f8)
    clear kr kt s0 s1 s2 s3 ka0_ kb0_ ka0_0 ka0_1 kb0_0 kb0_1 ka1_ kb1_ ka1_0 ka1_1 kb1_0 kb1_1 kr0 kr1 kt0 kt1 krf0 krf1 ktf0 ktf1 pa pb qa qb pa0 pa1 pb0 pb1 qa0 qa1 qb0 qb1
    have F0 := F.run.cell 0 rfl
    have F1 := F.run.cell 1 rfl
    have F2 := F.bank.cell 0 rfl
    have F3 := F.bank.cell 1 rfl
    unfold lay4 at F0 F1 F2 F3
    go_wp2
    show bodyPost _ _ _ _ _ _
    rw [HN.out.1, HN.out.2.1, HN.out.2.2.1, HN.out.2.2.2]
    exact bodyPost_ret (v := .tuple #[.agg #[(.int .i64 m), (.slice A8 L.length c8)], .agg #[(.slice B8 K.length d8), (.slice D8 C.length f8)], .bool false]) (by simp [results, Try.results21, go_sem, F0, F1, F2, F3]) rfl ⟨_, _, _, _, _, _, rfl, F.items.rebase n0, F.keys.base n0, F.cents.base n0, Sep.new o8 ok8 (Nat.le_refl _), Sep.new o8 oc8 (Nat.le_refl _), sp8, F.same⟩
  · have a20 := (h2.same hs1).cell 0 rfl
    have a21 := (h2.same hs1).cell 1 rfl
    go_wp2_with fail
    refine (iBankOk_any B D d f K C _ (by omega) (by omega) HWK.out ((hB.same hs0).same hs1) ((hD.same hs0).same hs1)).mono ?_
    rintro e w3 ⟨rfl, hs3⟩
    replace hs1 := hs1.trans hs3
    clear hs3 a20 a21
    cases m2 : bankOk K C
    · have HN := Lib.hid (send_none (plan_bad (show (runOk m L && bankOk K C) = false by rw [m1, m2]; rfl)))
      clear m1 m2
      have k1 := h1.same hs1
      have k2 := h2.same hs1
      have s0 := k1.cell 0 rfl
      have s1 := k1.cell 1 rfl
      have s2 := k2.cell 0 rfl
      have s3 := k2.cell 1 rfl
      have nlt1 := k1.lt
      have nlt2 := k2.lt
      have nW := Same.size hs1
      go_wp2_with fail
      go_region_held3 (fun x => x.cell? ⟨w.heap.size, 0, none⟩ = some (.int .i64 m) ∧ x.cell? ⟨w.heap.size, 1, none⟩ = some (.slice A L.length c) ∧ x.cell? ⟨(w.heap.size + 1), 0, none⟩ = some (.slice B K.length d) ∧ x.cell? ⟨(w.heap.size + 1), 1, none⟩ = some (.slice D C.length f))
        (first | (with_reducible exact ⟨qa0, qa1, qb0, qb1⟩) | (with_reducible exact ⟨pa0, pa1, pb0, pb1⟩) | (with_reducible exact ⟨ka1_0, ka1_1, kb1_0, kb1_1⟩) | (with_reducible exact ⟨ka0_0, ka0_1, kb0_0, kb0_1⟩) | exact ⟨s0, s1, s2, s3⟩)
        (first | (go_at_call 53; refine (copyRun_any m A c L _ hz ((hA.same hs0).same (Same.trans hs1 (Same.refl _).drew))).mono ?_; rintro e wz0 ⟨A8, c8, rfl, o8, hsz0⟩; (have hz0 := Same.trans (Same.refl _).drew hsz0); (have ka0_ := k1.same hz0); (have kb0_ := k2.same hz0); (have ka0_0 := ka0_.cell 0 rfl); (have ka0_1 := ka0_.cell 1 rfl); (have kb0_0 := kb0_.cell 0 rfl); (have kb0_1 := kb0_.cell 1 rfl)) | (go_at_call 54; refine (copyBank_any B d K D f C _ (by omega) ((hB.same hs0).same (Same.trans hs1 hz0)) (by omega) ((hD.same hs0).same (Same.trans hs1 hz0))).mono ?_; rintro e wz1 ⟨B8, d8, D8, f8, rfl, ok8, oc8, sp8, hsz1⟩; (have hz1 := Same.trans hz0 hsz1); (have ka1_ := k1.same hz1); (have kb1_ := k2.same hz1); (have ka1_0 := ka1_.cell 0 rfl); (have ka1_1 := ka1_.cell 1 rfl); (have kb1_0 := kb1_.cell 0 rfl); (have kb1_1 := kb1_.cell 1 rfl); (have kr := (h3.same hs1).same hz1); (have kt := (h4.same hs1).same hz1); (have kr0 := kr.cell 0 rfl); (have kr1 := kr.cell 1 rfl); (have kt0 := kt.cell 0 rfl); (have kt1 := kt.cell 1 rfl); (have krf0 := kr.frozen 0); (have krf1 := kr.frozen 1); (have ktf0 := kt.frozen 0); (have ktf1 := kt.frozen 1); (have pa := (ka1_.other (k := (w.heap.size + 1 + 1)) (j := 0) (.int .i64 m) (by omega)).other (k := (w.heap.size + 1 + 1)) (j := 1) (.slice A8 L.length c8) (by omega)); (have qa := (pa.other (k := (w.heap.size + 1 + 1 + 1)) (j := 0) (.slice B8 K.length d8) (by omega)).other (k := (w.heap.size + 1 + 1 + 1)) (j := 1) (.slice D8 C.length f8) (by omega)); (have pb := (kb1_.other (k := (w.heap.size + 1 + 1)) (j := 0) (.int .i64 m) (by omega)).other (k := (w.heap.size + 1 + 1)) (j := 1) (.slice A8 L.length c8) (by omega)); (have qb := (pb.other (k := (w.heap.size + 1 + 1 + 1)) (j := 0) (.slice B8 K.length d8) (by omega)).other (k := (w.heap.size + 1 + 1 + 1)) (j := 1) (.slice D8 C.length f8) (by omega)); (have pa0 := pa.cell 0 rfl); (have pa1 := pa.cell 1 rfl); (have pb0 := pb.cell 0 rfl); (have pb1 := pb.cell 1 rfl); (have qa0 := qa.cell 0 rfl); (have qa1 := qa.cell 1 rfl); (have qb0 := qb.cell 0 rfl); (have qb1 := qb.cell 1 rfl)))
      have nz : _ ≤ wz1.heap.size := Same.size hz1
      have F := laid4 (w := w) kr kt (by omega) (base := w0.heap.size) (by omega) (by omega) (by omega) (by omega) ((hs0.trans hs1).trans hz1) ((o8.rebase (by first | exact nW | simpa using nW)).same hsz1) (ok8.base (by have := Same.size hz0; omega)) (oc8.base (by have := Same.size hz0; omega)) (.int .i64 m) (.slice A8 L.length c8) (.slice B8 K.length d8) (.slice D8 C.length f8)
      clear kr kt s0 s1 s2 s3 ka0_ kb0_ ka0_0 ka0_1 kb0_0 kb0_1 ka1_ kb1_ ka1_0 ka1_1 kb1_0 kb1_1 kr0 kr1 kt0 kt1 krf0 krf1 ktf0 ktf1 pa pb qa qb pa0 pa1 pb0 pb1 qa0 qa1 qb0 qb1
      have F0 := F.run.cell 0 rfl
      have F1 := F.run.cell 1 rfl
      have F2 := F.bank.cell 0 rfl
      have F3 := F.bank.cell 1 rfl
      unfold lay4 at F0 F1 F2 F3
      go_wp2
      show bodyPost _ _ _ _ _ _
      rw [HN.out.1, HN.out.2.1, HN.out.2.2.1, HN.out.2.2.2]
      exact bodyPost_ret (v := .tuple #[.agg #[(.int .i64 m), (.slice A8 L.length c8)], .agg #[(.slice B8 K.length d8), (.slice D8 C.length f8)], .bool false]) (by simp [results, Try.results21, go_sem, F0, F1, F2, F3]) rfl ⟨_, _, _, _, _, _, rfl, F.items.rebase n0, F.keys.base n0, F.cents.base n0, Sep.new o8 ok8 (Nat.le_refl _), Sep.new o8 oc8 (Nat.le_refl _), sp8, F.same⟩
    · by_cases hneg : r < 0
      · have HN := Lib.hid (send_none (plan_no (m := m) (K := K) (C := C) (L := L) (by
          rcases HFO.out with ⟨_, h⟩ | ⟨k, x, rfl, _⟩
          · exact h
          · omega)))
        clear m1 m2
        have k1 := h1.same hs1
        have k2 := h2.same hs1
        have s0 := k1.cell 0 rfl
        have s1 := k1.cell 1 rfl
        have s2 := k2.cell 0 rfl
        have s3 := k2.cell 1 rfl
        have nlt1 := k1.lt
        have nlt2 := k2.lt
        have nW := Same.size hs1
        go_wp2_with fail
        go_region_held3 (fun x => x.cell? ⟨w.heap.size, 0, none⟩ = some (.int .i64 m) ∧ x.cell? ⟨w.heap.size, 1, none⟩ = some (.slice A L.length c) ∧ x.cell? ⟨(w.heap.size + 1), 0, none⟩ = some (.slice B K.length d) ∧ x.cell? ⟨(w.heap.size + 1), 1, none⟩ = some (.slice D C.length f))
          (first | (with_reducible exact ⟨qa0, qa1, qb0, qb1⟩) | (with_reducible exact ⟨pa0, pa1, pb0, pb1⟩) | (with_reducible exact ⟨ka1_0, ka1_1, kb1_0, kb1_1⟩) | (with_reducible exact ⟨ka0_0, ka0_1, kb0_0, kb0_1⟩) | exact ⟨s0, s1, s2, s3⟩)
          (first | (go_at_call 53; refine (copyRun_any m A c L _ hz ((hA.same hs0).same (Same.trans hs1 (Same.refl _).drew))).mono ?_; rintro e wz0 ⟨A8, c8, rfl, o8, hsz0⟩; (have hz0 := Same.trans (Same.refl _).drew hsz0); (have ka0_ := k1.same hz0); (have kb0_ := k2.same hz0); (have ka0_0 := ka0_.cell 0 rfl); (have ka0_1 := ka0_.cell 1 rfl); (have kb0_0 := kb0_.cell 0 rfl); (have kb0_1 := kb0_.cell 1 rfl)) | (go_at_call 54; refine (copyBank_any B d K D f C _ (by omega) ((hB.same hs0).same (Same.trans hs1 hz0)) (by omega) ((hD.same hs0).same (Same.trans hs1 hz0))).mono ?_; rintro e wz1 ⟨B8, d8, D8, f8, rfl, ok8, oc8, sp8, hsz1⟩; (have hz1 := Same.trans hz0 hsz1); (have ka1_ := k1.same hz1); (have kb1_ := k2.same hz1); (have ka1_0 := ka1_.cell 0 rfl); (have ka1_1 := ka1_.cell 1 rfl); (have kb1_0 := kb1_.cell 0 rfl); (have kb1_1 := kb1_.cell 1 rfl); (have kr := (h3.same hs1).same hz1); (have kt := (h4.same hs1).same hz1); (have kr0 := kr.cell 0 rfl); (have kr1 := kr.cell 1 rfl); (have kt0 := kt.cell 0 rfl); (have kt1 := kt.cell 1 rfl); (have krf0 := kr.frozen 0); (have krf1 := kr.frozen 1); (have ktf0 := kt.frozen 0); (have ktf1 := kt.frozen 1); (have pa := (ka1_.other (k := (w.heap.size + 1 + 1)) (j := 0) (.int .i64 m) (by omega)).other (k := (w.heap.size + 1 + 1)) (j := 1) (.slice A8 L.length c8) (by omega)); (have qa := (pa.other (k := (w.heap.size + 1 + 1 + 1)) (j := 0) (.slice B8 K.length d8) (by omega)).other (k := (w.heap.size + 1 + 1 + 1)) (j := 1) (.slice D8 C.length f8) (by omega)); (have pb := (kb1_.other (k := (w.heap.size + 1 + 1)) (j := 0) (.int .i64 m) (by omega)).other (k := (w.heap.size + 1 + 1)) (j := 1) (.slice A8 L.length c8) (by omega)); (have qb := (pb.other (k := (w.heap.size + 1 + 1 + 1)) (j := 0) (.slice B8 K.length d8) (by omega)).other (k := (w.heap.size + 1 + 1 + 1)) (j := 1) (.slice D8 C.length f8) (by omega)); (have pa0 := pa.cell 0 rfl); (have pa1 := pa.cell 1 rfl); (have pb0 := pb.cell 0 rfl); (have pb1 := pb.cell 1 rfl); (have qa0 := qa.cell 0 rfl); (have qa1 := qa.cell 1 rfl); (have qb0 := qb.cell 0 rfl); (have qb1 := qb.cell 1 rfl)))
        have nz : _ ≤ wz1.heap.size := Same.size hz1
        have F := laid4 (w := w) kr kt (by omega) (base := w0.heap.size) (by omega) (by omega) (by omega) (by omega) ((hs0.trans hs1).trans hz1) ((o8.rebase (by first | exact nW | simpa using nW)).same hsz1) (ok8.base (by have := Same.size hz0; omega)) (oc8.base (by have := Same.size hz0; omega)) (.int .i64 m) (.slice A8 L.length c8) (.slice B8 K.length d8) (.slice D8 C.length f8)
        clear kr kt s0 s1 s2 s3 ka0_ kb0_ ka0_0 ka0_1 kb0_0 kb0_1 ka1_ kb1_ ka1_0 ka1_1 kb1_0 kb1_1 kr0 kr1 kt0 kt1 krf0 krf1 ktf0 ktf1 pa pb qa qb pa0 pa1 pb0 pb1 qa0 qa1 qb0 qb1
        have F0 := F.run.cell 0 rfl
        have F1 := F.run.cell 1 rfl
        have F2 := F.bank.cell 0 rfl
        have F3 := F.bank.cell 1 rfl
        unfold lay4 at F0 F1 F2 F3
        go_wp2
        show bodyPost _ _ _ _ _ _
        rw [HN.out.1, HN.out.2.1, HN.out.2.2.1, HN.out.2.2.2]
        exact bodyPost_ret (v := .tuple #[.agg #[(.int .i64 m), (.slice A8 L.length c8)], .agg #[(.slice B8 K.length d8), (.slice D8 C.length f8)], .bool false]) (by simp [results, Try.results21, go_sem, F0, F1, F2, F3]) rfl ⟨_, _, _, _, _, _, rfl, F.items.rebase n0, F.keys.base n0, F.cents.base n0, Sep.new o8 ok8 (Nat.le_refl _), Sep.new o8 oc8 (Nat.le_refl _), sp8, F.same⟩
      · skip
        obtain ⟨k, x, rfl, hx, hp, hall⟩ : ∃ (k : Nat) (x : TItem), r = (k : Int) ∧ L[k]? = some x ∧ isOpn x = true ∧ (L.take k).all (fun x => !isOpn x) = true := by
          rcases HFO.out with ⟨h, _⟩ | ⟨k, x, h, hx, hp, hall⟩
          · omega
          · exact ⟨k, x, h, hx, hp, hall⟩
        clear HFO hr
        have hlt := (List.getElem?_eq_some_iff.1 hx).1
        have HR := runOk_and m1
        have hok := itemOk_iff.1 (HR.1 k x hx).1
        have hmo := HR.2.1
        have hkr := key_range m1 hx
        have HAC := Lib.hid (acc_send m1 m2 hx)
        have HPO := Lib.hid (plan_old m1 m2 hx hp hall)
        have HPN := Lib.hid (plan_new m1 m2 hx hp hall)
        have HPF := Lib.hid (plan_full m1 m2 hx hp hall)
        clear HR m1 m2 hp hall
        obtain ⟨b, off, y, rfl, hc, HX, hbl⟩ := hA.at_ hlt
        obtain rfl := Option.some.inj (hx.symm.trans HX.out)
        clear hx
        obtain ⟨f0, f1, f2⟩ := x
        dsimp only at hok hkr
        have HE1 := Lib.hid (hc 1 _ rfl)
        clear hc
        have q0 : (0 : Int) ≤ (k : Int) := by omega
        have q1 : (k : Int) < (L.length : Int) := by omega
        have q2 : ((k : Int) < 0) = False := by simp
        have a10 := (h1.same hs1).cell 0 rfl
        have a11 := (h1.same hs1).cell 1 rfl
        obtain ⟨key, hkey⟩ : ∃ key, key = keyOfI m (f0, f1, f2) := ⟨_, rfl⟩
        rw [← hkey] at HAC HPO HPN HPF hkr
        have HKEY := Lib.hid hkey
        clear hkey
        go_wp2_with fail
        refine (keyOf_any m (some ⟨b, off, none⟩) c L k (f0, f1, f2) _ hz' ((hA.same hs0).same hs1) HX.out hmo hok.1).mono ?_
        rw [show m * 1000 + (f0, f1, f2).1 = key from HKEY.out.symm]
        rintro e w4 ⟨rfl, hs4⟩
        replace hs1 := hs1.trans hs4
        clear hs4 a10 a11
        obtain ⟨KA, hKA⟩ : ∃ KA, KA = accK K C key f1 := ⟨_, rfl⟩
        obtain ⟨CA, hCA⟩ : ∃ CA, CA = accC K C key f1 := ⟨_, rfl⟩
        obtain ⟨ok, hokk⟩ : ∃ ok, ok = accOk K C key f1 := ⟨_, rfl⟩
        have HKA := Lib.hid hKA
        have HCA := Lib.hid hCA
        have HOK := Lib.hid hokk
        clear hKA hCA hokk
        have HWk := Lib.hid (show Wide [key] by intro y hy; simp at hy; subst hy; exact WalkArith.wf_i64 (by omega))
        have keepL : ∀ x : World, Same w0 x → Same w0 x ∧ x.cell? ⟨w.heap.size, 1, none⟩ = some (.slice (some ⟨b, off, none⟩) L.length c) ∧ x.cell? ⟨w.heap.size + 1, 0, none⟩ = some (.slice B K.length d) ∧ x.cell? ⟨w.heap.size + 1, 1, none⟩ = some (.slice D C.length f) ∧ x.cell? ⟨b, off + k * 3 + 1, none⟩ = some (.int .i64 f1) :=
          fun x h => ⟨h, (h1.same h).cell 1 rfl, (h2.same h).cell 0 rfl, (h2.same h).cell 1 rfl, ((hs0.trans h).cell (p := ⟨b, off + k * 3 + 1, none⟩) hbl).trans HE1.out⟩
        have n5 := Same.size hs1
        go_upto_region 5 with (fail)
        go_cut [9, 10] from 34 to 45 (fun t9 t10 wx => ∃ (g : Nat) (A9 : Option Addr) (c9 : Nat) (B9 : Option Addr) (d9 : Nat), t9 = .pointer (some ⟨g, 0, none⟩) ∧ t10 = .bool ok ∧ BoxAt wx g 29 [.slice A9 KA.length c9, .slice B9 CA.length d9] ∧ OwnI wx w0.heap.size (.slice A9 KA.length c9) KA ∧ OwnI wx w0.heap.size (.slice B9 CA.length d9) CA ∧ Sep (.slice A9 KA.length c9) (.slice B9 CA.length d9) ∧ w0.heap.size ≤ g ∧ Same w0 wx)
        case first =>
          go_region_held3 (fun x => Same w0 x ∧ x.cell? ⟨w.heap.size, 1, none⟩ = some (.slice (some ⟨b, off, none⟩) L.length c) ∧ x.cell? ⟨w.heap.size + 1, 0, none⟩ = some (.slice B K.length d) ∧ x.cell? ⟨w.heap.size + 1, 1, none⟩ = some (.slice D C.length f) ∧ x.cell? ⟨b, off + k * 3 + 1, none⟩ = some (.int .i64 f1))
            (first | exact keepL _ hs1 | exact keepL _ hs1.drew | exact keepL _ (hs1.alloc _) | exact keepL _ (hs1.alloc _).drew | exact keepL _ (hs1.drew.alloc _) | (go_split_ands; apply keepL; first | assumption | exact Same.trans (by assumption) hs9 | exact Same.alloc (by assumption) _ | exact Same.setCell (Same.setCell (Same.alloc SX _) (Same.size SX) _) (Same.size SX) _ | exact Same.setCell (Same.setCell SX (show w0.heap.size ≤ w4.heap.size from n5) _) (show w0.heap.size ≤ w4.heap.size from n5) _))
            (first | (go_split_ands; go_at_call 40; refine (iAccept_any B d K D f C key f1 _ (by omega) HWK.out HWk.out ((hB.same hs0).same (by assumption)) (by omega) ((hD.same hs0).same (by assumption))).mono ?_; rw [← HKA.out, ← HCA.out, ← HOK.out]; rintro e w9 ⟨A9, c9, B9, d9, rfl, oK, oC, sp, hs9⟩; (have SX : Same w0 w9 := Same.trans (by assumption) hs9); (first | (have zb : BoxAt w9 w4.heap.size 29 [.slice none 0 0, .slice none 0 0] := BoxAt.same (BoxAt.new w4 _ [_, _]).drew hs9) | (have zb : BoxAt w9 w4.heap.size 29 [.slice none 0 0, .slice none 0 0] := BoxAt.same (BoxAt.same (BoxAt.new w4 29 [.slice none 0 0, .slice none 0 0]) (Same.refl _).drew) hs9) | skip); (try (have z0 := zb.cell 0 rfl; have z1 := zb.cell 1 rfl; have z2 := zb.frozen 0; have z3 := zb.frozen 1))))
          all_goals go_wp2_with fail
          all_goals go_meet
          all_goals first
            | exact ⟨_, A9, c9, B9, d9, rfl, rfl, BoxAt.new w9 _ [_, _], (oK.base n5).alloc _, (oC.base n5).alloc _, sp, SX.size, SX.alloc _⟩
            | exact ⟨_, A9, c9, B9, d9, rfl, rfl, (zb.set 0 _).set 1 _, owns_set (owns_set (oK.base (by simp; omega)) (Sep.box oK (by simp))) (Sep.box oK (by simp)), owns_set (owns_set (oC.base (by simp; omega)) (Sep.box oC (by simp))) (Sep.box oC (by simp)), sp, n5, (SX.setCell n5 _).setCell n5 _⟩
        case rest =>
          obtain ⟨g, A9, c9, B9, d9, rfl, rfl, hbk, oK, oC, sp, hg, S4⟩ := hcut
          clear keepL hs1
          generalize wc = w5 at *
          have lt5 := hbk.lt
          cases hk : hasK K key
          · by_cases hl2 : K.length < 2000
            · have HN := Lib.hid (send_new (HPN.out hk hl2))
              have hok2 : ok = true := by rw [HOK.out, HAC.out, hk]; simpa using hl2
              subst hok2
              have HKQ := Lib.hid (show KA = sendK m L K C by rw [HKA.out, HN.out.2.2.1, ← HKEY.out]; exact (acc_yes HOK.out.symm).1)
              have HCQ := Lib.hid (show CA = sendC m L K C by rw [HCA.out, HN.out.2.2.2]; exact (acc_yes HOK.out.symm).2)
              have HLQ := Lib.hid (show L.set k (f0, f1, 1) = sendL m L K C from HN.out.2.1.symm)
              have HBQ := Lib.hid (show true = sendOk m L K C from HN.out.1.symm)
              have s10 := (h1.same S4).cell 0 rfl
              have s11 := (h1.same S4).cell 1 rfl
              clear hk hl2 HN
              have n5 := Same.size S4
              go_wp2_with fail
              refine (copyRun_any m (some ⟨b, off, none⟩) c L _ hz ((hA.same hs0).same S4)).mono ?_
              rintro e w6 ⟨A1, c1, rfl, ho, hs6⟩
              have n6 := hs6.size
              have sa := Sep.new oK ho (Nat.le_refl _)
              have sb := Sep.new oC ho (Nat.le_refl _)
              go_upto_region 9 with (fail)
              have hb := BoxAt.new w6 26 [.int .i64 m, .slice A1 L.length c1]
              have hs7 := (Same.refl w6).alloc (.cells #[.int .i64 m, .slice A1 L.length c1] 26)
              obtain ⟨g1, rfl, _⟩ := OwnR.at_ cItem_len ho HX.out
              have ho7 := ho.same hs7
              have n7 := hs7.size
              generalize w6.alloc (.cells #[.int .i64 m, .slice (some ⟨g1, 0, none⟩) L.length c1] 26) = w7 at *
              obtain ⟨_, _, hd, hf⟩ := OwnR.atg cItem_len ho7 HX.out
              have hg1 := owns_new ho g1 rfl
              have b1 := hb.cell 1 rfl
              have d2 := hd 2 _ rfl
              have e2 := hf (k * 3 + 2)
              clear hd hf
              have hst := OwnR.setc cItem_len ho7 (k := k) (j := 2) (x := (f0, f1, f2)) (y := (f0, f1, 1)) (u := .int .i64 1) HX.out (by decide) rfl
              have S8 := (S4.trans (hs6.trans hs7)).grown hst.2 (by intro g' hg'; injection hg' with hg'; omega)
              have hb8 := (hst.2.block _ hb.lt (by intro e; injection e with e; omega)).trans hb
              have hk8 : BoxAt _ g 29 [.slice A9 KA.length c9, .slice B9 CA.length d9] := (hst.2.block _ ((hbk.same hs6).same hs7).lt (by intro e; injection e with e; have := hbk.lt; omega)).trans ((hbk.same hs6).same hs7)
              have oK8 := grown_owns (v := .slice (some ⟨g1, 0, none⟩) L.length c1) hst.2 ((oK.same hs6).same hs7) sa.symm
              have oC8 := grown_owns (v := .slice (some ⟨g1, 0, none⟩) L.length c1) hst.2 ((oC.same hs6).same hs7) sb.symm
              have HOWN := Lib.hid hst.1
              have HLEN := Lib.hid (show (L.set k (f0, f1, 1)).length = L.length by simp)
              clear hst ho ho7
              go_wp2
              generalize hwg : World.setCell _ ⟨g1, k * 3 + 2, none⟩ (.int .i64 1) = w8 at *
              clear hwg b1 d2 e2
              have ho8 := HOWN.out
              clear HOWN
              obtain ⟨T, hT⟩ : ∃ T, T = L.set k (f0, f1, 1) := ⟨_, rfl⟩
              rw [← hT] at ho8 HLEN HLQ
              clear hT
              have ho9 : OwnItem w8 w5.heap.size (.slice (some ⟨g1, 0, none⟩) T.length c1) T := by rw [HLEN.out]; exact ho8
              have hb9 : BoxAt w8 w6.heap.size 26 [.int .i64 m, .slice (some ⟨g1, 0, none⟩) T.length c1] := by rw [HLEN.out]; exact hb8
              have sa9 : Sep (.slice (some ⟨g1, 0, none⟩) T.length c1) (.slice A9 KA.length c9) := fun g h1 h2 => sa g h2 h1
              have sb9 : Sep (.slice (some ⟨g1, 0, none⟩) T.length c1) (.slice B9 CA.length d9) := fun g h1 h2 => sb g h2 h1
              clear ho8 hb8 HLEN
              have s0 := hb9.cell 0 rfl
              have s1 := hb9.cell 1 rfl
              have s2 := hk8.cell 0 rfl
              have s3 := hk8.cell 1 rfl
              have nlt1 := hb9.lt
              have nlt2 := hk8.lt
              have nW := Same.size S8
              have kr := h3.same S8
              have kt := h4.same S8
              have kr0 := kr.cell 0 rfl
              have kr1 := kr.cell 1 rfl
              have kt0 := kt.cell 0 rfl
              have kt1 := kt.cell 1 rfl
              have krf0 := kr.frozen 0
              have krf1 := kr.frozen 1
              have ktf0 := kt.frozen 0
              have ktf1 := kt.frozen 1
              have ppa := (hb9.other (k := (w.heap.size + 1 + 1)) (j := 0) (.int .i64 m) (by omega)).other (k := (w.heap.size + 1 + 1)) (j := 1) (.slice (some ⟨g1, 0, none⟩) T.length c1) (by omega)
              have pa := BoxAt.same ppa (Same.refl _).drew
              have qa := BoxAt.same ((ppa.other (k := (w.heap.size + 1 + 1 + 1)) (j := 0) (.slice A9 KA.length c9) (by omega)).other (k := (w.heap.size + 1 + 1 + 1)) (j := 1) (.slice B9 CA.length d9) (by omega)) (Same.refl _).drew
              have ua := BoxAt.same hb9 (Same.refl _).drew
              have ppb := (hk8.other (k := (w.heap.size + 1 + 1)) (j := 0) (.int .i64 m) (by omega)).other (k := (w.heap.size + 1 + 1)) (j := 1) (.slice (some ⟨g1, 0, none⟩) T.length c1) (by omega)
              have pb := BoxAt.same ppb (Same.refl _).drew
              have qb := BoxAt.same ((ppb.other (k := (w.heap.size + 1 + 1 + 1)) (j := 0) (.slice A9 KA.length c9) (by omega)).other (k := (w.heap.size + 1 + 1 + 1)) (j := 1) (.slice B9 CA.length d9) (by omega)) (Same.refl _).drew
              have ub := BoxAt.same hk8 (Same.refl _).drew
              have pa0 := pa.cell 0 rfl
              have pa1 := pa.cell 1 rfl
              have pb0 := pb.cell 0 rfl
              have pb1 := pb.cell 1 rfl
              have qa0 := qa.cell 0 rfl
              have qa1 := qa.cell 1 rfl
              have qb0 := qb.cell 0 rfl
              have qb1 := qb.cell 1 rfl
              have ua0 := ua.cell 0 rfl
              have ua1 := ua.cell 1 rfl
              have ub0 := ub.cell 0 rfl
              have ub1 := ub.cell 1 rfl
              go_wp2_with fail
              go_region_held3 (fun x => x.cell? ⟨w6.heap.size, 0, none⟩ = some (.int .i64 m) ∧ x.cell? ⟨w6.heap.size, 1, none⟩ = some (.slice (some ⟨g1, 0, none⟩) T.length c1) ∧ x.cell? ⟨g, 0, none⟩ = some (.slice A9 KA.length c9) ∧ x.cell? ⟨g, 1, none⟩ = some (.slice B9 CA.length d9))
                (first | (with_reducible exact ⟨qa0, qa1, qb0, qb1⟩) | (with_reducible exact ⟨pa0, pa1, pb0, pb1⟩) | (with_reducible exact ⟨ua0, ua1, ub0, ub1⟩))
                (fail)
              have F := laid4 (w := w) kr kt (by omega) (base := w0.heap.size) (by omega) (by omega) (by omega) (by omega) ((hs0.trans S8).trans (Same.refl _)) (ho9.rebase n5) oK8 oC8 (.int .i64 m) (.slice (some ⟨g1, 0, none⟩) T.length c1) (.slice A9 KA.length c9) (.slice B9 CA.length d9)
              clear kr kt s0 s1 s2 s3 kr0 kr1 kt0 kt1 krf0 krf1 ktf0 ktf1 ppa ppb ua ub ua0 ua1 ub0 ub1 pa pb qa qb pa0 pa1 pb0 pb1 qa0 qa1 qb0 qb1
              have F0 := F.run.cell 0 rfl
              have F1 := F.run.cell 1 rfl
              have F2 := F.bank.cell 0 rfl
              have F3 := F.bank.cell 1 rfl
              unfold lay4 at F0 F1 F2 F3
              go_wp2
              show bodyPost _ _ _ _ _ _
              rw [← HLQ.out, ← HKQ.out, ← HCQ.out, ← HBQ.out]
              exact bodyPost_ret (v := .tuple #[.agg #[(.int .i64 m), (.slice (some ⟨g1, 0, none⟩) T.length c1)], .agg #[(.slice A9 KA.length c9), (.slice B9 CA.length d9)], .bool true]) (by simp [results, Try.results21, go_sem, F0, F1, F2, F3]) rfl ⟨_, _, _, _, _, _, rfl, F.items.rebase n0, F.keys.base n0, F.cents.base n0, sa9, sb9, sp, F.same.drew⟩
            · have HN := Lib.hid (send_none (HPF.out hk hl2))
              have hok2 : ok = false := by rw [HOK.out, HAC.out, hk]; simp [hl2]
              subst hok2
              have HK2 := Lib.hid hk
              clear hk hl2
              have s20 := (h2.same S4).cell 0 rfl
              go_wp2_with fail
              refine (contains_any B d K key _ (by omega) ((hB.same hs0).same S4)).mono ?_
              rintro e w10 ⟨rfl, hs10⟩
              rw [HK2.out]
              replace S4 := S4.trans hs10
              clear hs10 s20
              have k1 := h1.same S4
              have k2 := h2.same S4
              have s0 := k1.cell 0 rfl
              have s1 := k1.cell 1 rfl
              have s2 := k2.cell 0 rfl
              have s3 := k2.cell 1 rfl
              have nlt1 := k1.lt
              have nlt2 := k2.lt
              have nW := Same.size S4
              go_wp2_with fail
              go_region_held3 (fun x => x.cell? ⟨w.heap.size, 0, none⟩ = some (.int .i64 m) ∧ x.cell? ⟨w.heap.size, 1, none⟩ = some (.slice (some ⟨b, off, none⟩) L.length c) ∧ x.cell? ⟨(w.heap.size + 1), 0, none⟩ = some (.slice B K.length d) ∧ x.cell? ⟨(w.heap.size + 1), 1, none⟩ = some (.slice D C.length f))
                (first | (with_reducible exact ⟨qa0, qa1, qb0, qb1⟩) | (with_reducible exact ⟨pa0, pa1, pb0, pb1⟩) | (with_reducible exact ⟨ka1_0, ka1_1, kb1_0, kb1_1⟩) | (with_reducible exact ⟨ka0_0, ka0_1, kb0_0, kb0_1⟩) | exact ⟨s0, s1, s2, s3⟩)
                (first | (go_at_call 53; refine (copyRun_any m (some ⟨b, off, none⟩) c L _ hz ((hA.same hs0).same (Same.trans S4 (Same.refl _).drew))).mono ?_; rintro e wz0 ⟨A8, c8, rfl, o8, hsz0⟩; (have hz0 := Same.trans (Same.refl _).drew hsz0); (have ka0_ := k1.same hz0); (have kb0_ := k2.same hz0); (have ka0_0 := ka0_.cell 0 rfl); (have ka0_1 := ka0_.cell 1 rfl); (have kb0_0 := kb0_.cell 0 rfl); (have kb0_1 := kb0_.cell 1 rfl)) | (go_at_call 54; refine (copyBank_any B d K D f C _ (by omega) ((hB.same hs0).same (Same.trans S4 hz0)) (by omega) ((hD.same hs0).same (Same.trans S4 hz0))).mono ?_; rintro e wz1 ⟨B8, d8, D8, f8, rfl, ok8, oc8, sp8, hsz1⟩; (have hz1 := Same.trans hz0 hsz1); (have ka1_ := k1.same hz1); (have kb1_ := k2.same hz1); (have ka1_0 := ka1_.cell 0 rfl); (have ka1_1 := ka1_.cell 1 rfl); (have kb1_0 := kb1_.cell 0 rfl); (have kb1_1 := kb1_.cell 1 rfl); (have kr := (h3.same S4).same hz1); (have kt := (h4.same S4).same hz1); (have kr0 := kr.cell 0 rfl); (have kr1 := kr.cell 1 rfl); (have kt0 := kt.cell 0 rfl); (have kt1 := kt.cell 1 rfl); (have krf0 := kr.frozen 0); (have krf1 := kr.frozen 1); (have ktf0 := kt.frozen 0); (have ktf1 := kt.frozen 1); (have pa := (ka1_.other (k := (w.heap.size + 1 + 1)) (j := 0) (.int .i64 m) (by omega)).other (k := (w.heap.size + 1 + 1)) (j := 1) (.slice A8 L.length c8) (by omega)); (have qa := (pa.other (k := (w.heap.size + 1 + 1 + 1)) (j := 0) (.slice B8 K.length d8) (by omega)).other (k := (w.heap.size + 1 + 1 + 1)) (j := 1) (.slice D8 C.length f8) (by omega)); (have pb := (kb1_.other (k := (w.heap.size + 1 + 1)) (j := 0) (.int .i64 m) (by omega)).other (k := (w.heap.size + 1 + 1)) (j := 1) (.slice A8 L.length c8) (by omega)); (have qb := (pb.other (k := (w.heap.size + 1 + 1 + 1)) (j := 0) (.slice B8 K.length d8) (by omega)).other (k := (w.heap.size + 1 + 1 + 1)) (j := 1) (.slice D8 C.length f8) (by omega)); (have pa0 := pa.cell 0 rfl); (have pa1 := pa.cell 1 rfl); (have pb0 := pb.cell 0 rfl); (have pb1 := pb.cell 1 rfl); (have qa0 := qa.cell 0 rfl); (have qa1 := qa.cell 1 rfl); (have qb0 := qb.cell 0 rfl); (have qb1 := qb.cell 1 rfl)))
              have nz : _ ≤ wz1.heap.size := Same.size hz1
              have F := laid4 (w := w) kr kt (by omega) (base := w0.heap.size) (by omega) (by omega) (by omega) (by omega) ((hs0.trans S4).trans hz1) ((o8.rebase (by first | exact nW | simpa using nW)).same hsz1) (ok8.base (by have := Same.size hz0; omega)) (oc8.base (by have := Same.size hz0; omega)) (.int .i64 m) (.slice A8 L.length c8) (.slice B8 K.length d8) (.slice D8 C.length f8)
              clear kr kt s0 s1 s2 s3 ka0_ kb0_ ka0_0 ka0_1 kb0_0 kb0_1 ka1_ kb1_ ka1_0 ka1_1 kb1_0 kb1_1 kr0 kr1 kt0 kt1 krf0 krf1 ktf0 ktf1 pa pb qa qb pa0 pa1 pb0 pb1 qa0 qa1 qb0 qb1
              have F0 := F.run.cell 0 rfl
              have F1 := F.run.cell 1 rfl
              have F2 := F.bank.cell 0 rfl
              have F3 := F.bank.cell 1 rfl
              unfold lay4 at F0 F1 F2 F3
              go_wp2
              show bodyPost _ _ _ _ _ _
              rw [HN.out.1, HN.out.2.1, HN.out.2.2.1, HN.out.2.2.2]
              exact bodyPost_ret (v := .tuple #[.agg #[(.int .i64 m), (.slice A8 L.length c8)], .agg #[(.slice B8 K.length d8), (.slice D8 C.length f8)], .bool false]) (by simp [results, Try.results21, go_sem, F0, F1, F2, F3]) rfl ⟨_, _, _, _, _, _, rfl, F.items.rebase n0, F.keys.base n0, F.cents.base n0, Sep.new o8 ok8 (Nat.le_refl _), Sep.new o8 oc8 (Nat.le_refl _), sp8, F.same⟩
          · have HN := Lib.hid (send_old (HPO.out hk))
            have hok2 : ok = false := by rw [HOK.out, HAC.out, hk]; simp
            subst hok2
            have HK2 := Lib.hid hk
            clear hk
            have s20 := (h2.same S4).cell 0 rfl
            go_wp2_with fail
            refine (contains_any B d K key _ (by omega) ((hB.same hs0).same S4)).mono ?_
            rintro e w10 ⟨rfl, hs10⟩
            rw [HK2.out]
            have HKQ := Lib.hid (show KA = sendK m L K C by rw [HKA.out, HN.out.2.2.1]; exact (acc_no HOK.out.symm).1)
            have HCQ := Lib.hid (show CA = sendC m L K C by rw [HCA.out, HN.out.2.2.2]; exact (acc_no HOK.out.symm).2)
            have HLQ := Lib.hid (show L.set k (f0, f1, 1) = sendL m L K C from HN.out.2.1.symm)
            have HBQ := Lib.hid (show true = sendOk m L K C from HN.out.1.symm)
            replace S4 := S4.trans hs10
            replace oK := oK.same hs10
            replace oC := oC.same hs10
            replace hbk := hbk.same hs10
            clear hs10 s20 HN
            have s10 := (h1.same S4).cell 0 rfl
            have s11 := (h1.same S4).cell 1 rfl
            have n5 := Same.size S4
            go_wp2_with fail
            refine (copyRun_any m (some ⟨b, off, none⟩) c L _ hz ((hA.same hs0).same S4)).mono ?_
            rintro e w6 ⟨A1, c1, rfl, ho, hs6⟩
            have n6 := hs6.size
            have sa := Sep.new oK ho (Nat.le_refl _)
            have sb := Sep.new oC ho (Nat.le_refl _)
            go_upto_region 9 with (fail)
            have hb := BoxAt.new w6 26 [.int .i64 m, .slice A1 L.length c1]
            have hs7 := (Same.refl w6).alloc (.cells #[.int .i64 m, .slice A1 L.length c1] 26)
            obtain ⟨g1, rfl, _⟩ := OwnR.at_ cItem_len ho HX.out
            have ho7 := ho.same hs7
            have n7 := hs7.size
            generalize w6.alloc (.cells #[.int .i64 m, .slice (some ⟨g1, 0, none⟩) L.length c1] 26) = w7 at *
            obtain ⟨_, _, hd, hf⟩ := OwnR.atg cItem_len ho7 HX.out
            have hg1 := owns_new ho g1 rfl
            have b1 := hb.cell 1 rfl
            have d2 := hd 2 _ rfl
            have e2 := hf (k * 3 + 2)
            clear hd hf
            have hst := OwnR.setc cItem_len ho7 (k := k) (j := 2) (x := (f0, f1, f2)) (y := (f0, f1, 1)) (u := .int .i64 1) HX.out (by decide) rfl
            have S8 := (S4.trans (hs6.trans hs7)).grown hst.2 (by intro g' hg'; injection hg' with hg'; omega)
            have hb8 := (hst.2.block _ hb.lt (by intro e; injection e with e; omega)).trans hb
            have hk8 : BoxAt _ g 29 [.slice A9 KA.length c9, .slice B9 CA.length d9] := (hst.2.block _ ((hbk.same hs6).same hs7).lt (by intro e; injection e with e; have := hbk.lt; omega)).trans ((hbk.same hs6).same hs7)
            have oK8 := grown_owns (v := .slice (some ⟨g1, 0, none⟩) L.length c1) hst.2 ((oK.same hs6).same hs7) sa.symm
            have oC8 := grown_owns (v := .slice (some ⟨g1, 0, none⟩) L.length c1) hst.2 ((oC.same hs6).same hs7) sb.symm
            have HOWN := Lib.hid hst.1
            have HLEN := Lib.hid (show (L.set k (f0, f1, 1)).length = L.length by simp)
            clear hst ho ho7
            go_wp2
            generalize hwg : World.setCell _ ⟨g1, k * 3 + 2, none⟩ (.int .i64 1) = w8 at *
            clear hwg b1 d2 e2
            have ho8 := HOWN.out
            clear HOWN
            obtain ⟨T, hT⟩ : ∃ T, T = L.set k (f0, f1, 1) := ⟨_, rfl⟩
            rw [← hT] at ho8 HLEN HLQ
            clear hT
            have ho9 : OwnItem w8 w10.heap.size (.slice (some ⟨g1, 0, none⟩) T.length c1) T := by rw [HLEN.out]; exact ho8
            have hb9 : BoxAt w8 w6.heap.size 26 [.int .i64 m, .slice (some ⟨g1, 0, none⟩) T.length c1] := by rw [HLEN.out]; exact hb8
            have sa9 : Sep (.slice (some ⟨g1, 0, none⟩) T.length c1) (.slice A9 KA.length c9) := fun g h1 h2 => sa g h2 h1
            have sb9 : Sep (.slice (some ⟨g1, 0, none⟩) T.length c1) (.slice B9 CA.length d9) := fun g h1 h2 => sb g h2 h1
            clear ho8 hb8 HLEN
            have s0 := hb9.cell 0 rfl
            have s1 := hb9.cell 1 rfl
            have s2 := hk8.cell 0 rfl
            have s3 := hk8.cell 1 rfl
            have nlt1 := hb9.lt
            have nlt2 := hk8.lt
            have nW := Same.size S8
            have kr := h3.same S8
            have kt := h4.same S8
            have kr0 := kr.cell 0 rfl
            have kr1 := kr.cell 1 rfl
            have kt0 := kt.cell 0 rfl
            have kt1 := kt.cell 1 rfl
            have krf0 := kr.frozen 0
            have krf1 := kr.frozen 1
            have ktf0 := kt.frozen 0
            have ktf1 := kt.frozen 1
            have ppa := (hb9.other (k := (w.heap.size + 1 + 1)) (j := 0) (.int .i64 m) (by omega)).other (k := (w.heap.size + 1 + 1)) (j := 1) (.slice (some ⟨g1, 0, none⟩) T.length c1) (by omega)
            have pa := BoxAt.same ppa (Same.refl _).drew
            have qa := BoxAt.same ((ppa.other (k := (w.heap.size + 1 + 1 + 1)) (j := 0) (.slice A9 KA.length c9) (by omega)).other (k := (w.heap.size + 1 + 1 + 1)) (j := 1) (.slice B9 CA.length d9) (by omega)) (Same.refl _).drew
            have ua := BoxAt.same hb9 (Same.refl _).drew
            have ppb := (hk8.other (k := (w.heap.size + 1 + 1)) (j := 0) (.int .i64 m) (by omega)).other (k := (w.heap.size + 1 + 1)) (j := 1) (.slice (some ⟨g1, 0, none⟩) T.length c1) (by omega)
            have pb := BoxAt.same ppb (Same.refl _).drew
            have qb := BoxAt.same ((ppb.other (k := (w.heap.size + 1 + 1 + 1)) (j := 0) (.slice A9 KA.length c9) (by omega)).other (k := (w.heap.size + 1 + 1 + 1)) (j := 1) (.slice B9 CA.length d9) (by omega)) (Same.refl _).drew
            have ub := BoxAt.same hk8 (Same.refl _).drew
            have pa0 := pa.cell 0 rfl
            have pa1 := pa.cell 1 rfl
            have pb0 := pb.cell 0 rfl
            have pb1 := pb.cell 1 rfl
            have qa0 := qa.cell 0 rfl
            have qa1 := qa.cell 1 rfl
            have qb0 := qb.cell 0 rfl
            have qb1 := qb.cell 1 rfl
            have ua0 := ua.cell 0 rfl
            have ua1 := ua.cell 1 rfl
            have ub0 := ub.cell 0 rfl
            have ub1 := ub.cell 1 rfl
            go_wp2_with fail
            go_region_held3 (fun x => x.cell? ⟨w6.heap.size, 0, none⟩ = some (.int .i64 m) ∧ x.cell? ⟨w6.heap.size, 1, none⟩ = some (.slice (some ⟨g1, 0, none⟩) T.length c1) ∧ x.cell? ⟨g, 0, none⟩ = some (.slice A9 KA.length c9) ∧ x.cell? ⟨g, 1, none⟩ = some (.slice B9 CA.length d9))
              (first | (with_reducible exact ⟨qa0, qa1, qb0, qb1⟩) | (with_reducible exact ⟨pa0, pa1, pb0, pb1⟩) | (with_reducible exact ⟨ua0, ua1, ub0, ub1⟩))
              (fail)
            have F := laid4 (w := w) kr kt (by omega) (base := w0.heap.size) (by omega) (by omega) (by omega) (by omega) ((hs0.trans S8).trans (Same.refl _)) (ho9.rebase n5) oK8 oC8 (.int .i64 m) (.slice (some ⟨g1, 0, none⟩) T.length c1) (.slice A9 KA.length c9) (.slice B9 CA.length d9)
            clear kr kt s0 s1 s2 s3 kr0 kr1 kt0 kt1 krf0 krf1 ktf0 ktf1 ppa ppb ua ub ua0 ua1 ub0 ub1 pa pb qa qb pa0 pa1 pb0 pb1 qa0 qa1 qb0 qb1
            have F0 := F.run.cell 0 rfl
            have F1 := F.run.cell 1 rfl
            have F2 := F.bank.cell 0 rfl
            have F3 := F.bank.cell 1 rfl
            unfold lay4 at F0 F1 F2 F3
            go_wp2
            show bodyPost _ _ _ _ _ _
            rw [← HLQ.out, ← HKQ.out, ← HCQ.out, ← HBQ.out]
            exact bodyPost_ret (v := .tuple #[.agg #[(.int .i64 m), (.slice (some ⟨g1, 0, none⟩) T.length c1)], .agg #[(.slice A9 KA.length c9), (.slice B9 CA.length d9)], .bool true]) (by simp [results, Try.results21, go_sem, F0, F1, F2, F3]) rfl ⟨_, _, _, _, _, _, rfl, F.items.rebase n0, F.keys.base n0, F.cents.base n0, sa9, sb9, sp, F.same.drew⟩
end Go.Proofs.Ytccgbilgfnoheaa
