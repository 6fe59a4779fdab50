/-
  FnKeysOnce: for every list of bytes the bank accepts every key once, and confirming twice is confirming once. No condition.
-/
import Derived.Test.YtccgbilgfnoheaaLawReturned
namespace Go.Proofs.Ytccgbilgfnoheaa
open Go.RowKit
set_option linter.unusedVariables false
set_option linter.unnecessarySimpa false

set_option maxRecDepth 100000 in
set_option maxHeartbeats 4000000 in
theorem lawKeysOnce (A : Option Addr) (n c : Nat) (w : World) (hn : n ≤ 9223372036854775807) (hA : BytesAt w w.heap.size A n) :
    Calls Try.prog 11 #[.slice A n c] w fun e w' => e = .returned (.bool true) ∧ Same w w' := by
  by_cases hbig : n ≤ 1048576
  · go_enter Try.func11, Try.ntmps11
    go_wp2_with fail
    refine (big_no A n c _ hbig).mono ?_
    rintro e w0 ⟨rfl, rfl⟩
    go_wp2_with fail
    refine (drawPay_any A n c _ hbig hA).mono ?_
    rintro e w1 ⟨m, L, K, C, A1, c1, B1, d1, D1, f1, rfl, hok, hob, hlL, hlK, oi, ok, oc, hs1⟩
    have HOK := Lib.hid hok
    have HOB := Lib.hid hob
    have hI := bankOk_iff.1 hob
    have hlC : C.length ≤ 8 := by omega
    have HI := Lib.hid hI
    have HCT := Lib.hid (confirm_twice hok hob)
    have HCO := Lib.hid (confirm_ok (K := K) (C := C) hok)
    have HCA := Lib.hid (fun (i : Nat) (x : TItem) (hx : L[i]? = some x) => confirm_at hok hob hx)
    have hcl := confirm_len m L K C
    clear hok hob hI
    obtain ⟨X, hX⟩ : ∃ X, X = confirm m L K C := ⟨_, rfl⟩
    rw [← hX] at HCT HCO HCA hcl
    have HX := Lib.hid hX
    have hlX : X.length ≤ 7 := by omega
    have HXL := Lib.hid hcl
    clear hX hcl
    have al := ((Same.refl w1).alloc (.cells #[.int .i64 m, .slice A1 L.length c1] 26)).alloc (.cells #[.slice B1 K.length d1, .slice D1 C.length f1] 29)
    have hb3 := (BoxAt.new w1 26 [.int .i64 m, .slice A1 L.length c1]).alloc (.cells #[.slice B1 K.length d1, .slice D1 C.length f1] 29)
    have hb4 : BoxAt ((w1.alloc (.cells #[.int .i64 m, .slice A1 L.length c1] 26)).alloc (.cells #[.slice B1 K.length d1, .slice D1 C.length f1] 29)) (w1.heap.size + 1) 29 [.slice B1 K.length d1, .slice D1 C.length f1] := by
      have := BoxAt.new (w1.alloc (.cells #[.int .i64 m, .slice A1 L.length c1] 26)) 29 [.slice B1 K.length d1, .slice D1 C.length f1]
      rw [World.size_alloc] at this
      exact this
    have iL := (OwnR.recs cItem_len oi).same al
    have iK := (OwnI.ints ok).same al
    have iC := (OwnI.ints oc).same al
    have hcL := OwnR.cap oi
    have S2 := hs1.trans al
    clear oi ok oc
    have r0 := hb3.cell 0 rfl
    have r1 := hb3.cell 1 rfl
    have b0 := hb4.cell 0 rfl
    have b1 := hb4.cell 1 rfl
    go_wp2_with fail
    generalize (w1.alloc (.cells #[.int .i64 m, .slice A1 L.length c1] 26)).alloc (.cells #[.slice B1 K.length d1, .slice D1 C.length f1] 29) = w2 at *
    generalize w1.heap.size = g3 at *
    generalize hg4 : g3 + 1 = g4 at *
    clear hg4
    refine (iConfirm_any m A1 c1 L B1 d1 K D1 f1 C _ (by omega) hcL iL (by omega) iK (wide_ok HOB.out) (by omega) iC).mono ?_
    rw [← HX.out]
    rintro e w3 ⟨A2, c2, rfl, ox, hs3⟩
    have al3 := (Same.refl w3).alloc (.cells #[.int .i64 m, .slice A2 X.length c2] 26)
    have hb5 := BoxAt.new w3 26 [.int .i64 m, .slice A2 X.length c2]
    have iX := (OwnR.recs cItem_len ox).same al3
    have hcX := OwnR.cap ox
    replace hb3 := (hb3.same hs3).same al3
    replace hb4 := (hb4.same hs3).same al3
    replace iK := (iK.same hs3).same al3
    replace iC := (iC.same hs3).same al3
    replace iL := (iL.same hs3).same al3
    have S4 := (S2.trans hs3).trans al3
    clear r0 r1 b0 b1 ox hs3
    have x0 := hb5.cell 0 rfl
    have x1 := hb5.cell 1 rfl
    have b0 := hb4.cell 0 rfl
    have b1 := hb4.cell 1 rfl
    go_wp2_with fail
    generalize w3.alloc (.cells #[.int .i64 m, .slice A2 X.length c2] 26) = w4 at *
    generalize w3.heap.size = g5 at *
    refine (iConfirm_any m A2 c2 X B1 d1 K D1 f1 C _ (by omega) hcX iX (by omega) iK (wide_ok HOB.out) (by omega) iC).mono ?_
    rw [HCT.out]
    rintro e w5 ⟨A3, c3, rfl, oy, hs5⟩
    have al5 := (Same.refl w5).alloc (.cells #[.int .i64 m, .slice A3 X.length c3] 26)
    have hb6 := BoxAt.new w5 26 [.int .i64 m, .slice A3 X.length c3]
    have iY := (OwnR.recs cItem_len oy).same al5
    replace hb3 := (hb3.same hs5).same al5
    replace hb4 := (hb4.same hs5).same al5
    replace hb5 := (hb5.same hs5).same al5
    replace iK := (iK.same hs5).same al5
    replace iC := (iC.same hs5).same al5
    replace iL := (iL.same hs5).same al5
    replace iX := (iX.same hs5).same al5
    have S6 := (S4.trans hs5).trans al5
    clear x0 x1 b0 b1 oy hs5 al3 al5 al hs1
    have r1 := hb3.cell 1 rfl
    have x1 := hb5.cell 1 rfl
    have y1 := hb6.cell 1 rfl
    have e1 : ((X.length : Int) != (L.length : Int)) = false := by rw [HXL.out]; simp
    go_wp2
    generalize w5.alloc (.cells #[.int .i64 m, .slice A3 X.length c3] 26) = w6 at *
    generalize w5.heap.size = g6 at *
    go_loopw [7] (fun t7 wr => ∃ k : Nat, k ≤ X.length ∧ t7 = .int .i64 k ∧ Same w6 wr) (fun t7 _ => X.length - (intOf t7).toNat)
    case atStart => exact ⟨0, Nat.zero_le _, rfl, Same.refl _⟩
    case round =>
      obtain ⟨k, hk, rfl, S7⟩ := hrel
      have x1 := (hb5.same S7).cell 1 rfl
      have y1 := (hb6.same S7).cell 1 rfl
      have r1 := (hb3.same S7).cell 1 rfl
      by_cases hlt : k < X.length
      · obtain ⟨b, off, z, rfl, cz, HZ, hbl⟩ := (iL.same S7).at_ (k := k) (by have := HXL.out; omega)
        obtain ⟨f0, f1, f2⟩ := z
        have hX := HCA.out k _ HZ.out
        obtain ⟨q, hq⟩ : ∃ q : Int, q = if hasK K (keyOfI m (f0, f1, f2)) = true then 2 else 0 := ⟨_, rfl⟩
        dsimp only at hX
        rw [← hq] at hX
        have hq1 : (q == 1) = false := by rw [hq]; split <;> rfl
        clear hq
        obtain ⟨b2, off2, z2, rfl, cz2, HZ2, hbl2⟩ := (iX.same S7).at_ hlt
        obtain rfl := Option.some.inj (HZ2.out.symm.trans hX)
        obtain ⟨b3, off3, z3, rfl, cz3, HZ3, hbl3⟩ := (iY.same S7).at_ hlt
        obtain rfl := Option.some.inj (HZ3.out.symm.trans hX)
        have d0 := cz2 0 _ rfl
        have d1 := cz2 1 _ rfl
        have d2 := cz2 2 _ rfl
        have d3 := cz3 0 _ rfl
        have d4 := cz3 1 _ rfl
        have d5 := cz3 2 _ rfl
        have d6 := cz 1 _ rfl
        simp only [Nat.add_zero] at d0 d3
        have q0 : (0 : Int) ≤ (k : Int) := by omega
        have q1 : (k : Int) < (X.length : Int) := by omega
        have q2 : (k : Int) < (L.length : Int) := by have := HXL.out; omega
        clear cz cz2 cz3 hX
        go_wp2
        go_quiet (fail)
        go_wp2
        go_roundw
        case rel => exact ⟨k + 1, hlt, by go_num, S7.drewN _⟩
        case measure => simp [intOf]; omega
      · have hneg : ¬ (k : Int) < (X.length : Int) := by omega
        clear r1 y1
        go_wp2
        clear x1
        go_loopw [8] (fun t8 wr => ∃ j : Nat, j ≤ K.length ∧ t8 = .int .i64 j ∧ Same w6 wr) (fun t8 _ => K.length - (intOf t8).toNat)
        case atStart => exact ⟨0, Nat.zero_le _, rfl, S7⟩
        case round =>
          obtain ⟨j, hj, rfl, S8⟩ := hrel
          clear S7
          have b0 := (hb4.same S8).cell 0 rfl
          by_cases hlt2 : j < K.length
          · obtain ⟨b, off, x, rfl, cx, HX2, hbl⟩ := iK.at_ hlt2
            have hx := (HI.out.2.2 j x (C[j]'(by have := HI.out.1; omega)) HX2.out (List.getElem?_eq_getElem _)).1
            have ho : accOk K C x 1 = false := by
              have : hasK K x = true := hasK_mem.2 (List.mem_of_getElem? HX2.out)
              rw [accOk, this]; rfl
            have HO := Lib.hid ho
            have HWX := Lib.hid (show Wide [x] by intro y hy; simp at hy; subst hy; exact WalkArith.wf_i64 (by omega))
            have q0 : (0 : Int) ≤ (j : Int) := by omega
            have q1 : (j : Int) < (K.length : Int) := by omega
            clear ho
            have n8 := S8.size
            have keepL : ∀ z : World, Same w6 z → Same w6 z ∧ z.cell? ⟨g4, 0, none⟩ = some (.slice (some ⟨b, off, none⟩) K.length d1) ∧ z.cell? ⟨g4, 1, none⟩ = some (.slice D1 C.length f1) ∧ z.cell? ⟨b, off + j, none⟩ = some (.int .i64 x) :=
              fun z h => ⟨h, (hb4.same h).cell 0 rfl, (hb4.same h).cell 1 rfl, (h.cell (p := ⟨b, off + j, none⟩) hbl).trans cx⟩
            clear cx
            go_upto_region 16 with (fail)
            go_cut [10] from 89 to 98 (fun t10 wx => t10 = .bool false ∧ Same w6 wx)
            case first =>
              go_region_held3 (fun z => Same w6 z ∧ z.cell? ⟨g4, 0, none⟩ = some (.slice (some ⟨b, off, none⟩) K.length d1) ∧ z.cell? ⟨g4, 1, none⟩ = some (.slice D1 C.length f1) ∧ z.cell? ⟨b, off + j, none⟩ = some (.int .i64 x))
                (first | exact keepL _ S8 | exact keepL _ S8.drew | exact keepL _ (S8.alloc _) | exact keepL _ (S8.alloc _).drew | exact keepL _ (S8.drew.alloc _) | (go_split_ands; apply keepL; first | assumption | exact Same.trans (by assumption) hs9 | exact Same.alloc (by assumption) _ | exact Same.setCell (Same.setCell SX (show w6.heap.size ≤ wr.heap.size from n8) _) (show w6.heap.size ≤ wr.heap.size from n8) _))
                (first | (go_split_ands; go_at_call 40; refine (iAccept_any (some ⟨b, off, none⟩) d1 K D1 f1 C x 1 _ (by omega) (wide_ok HOB.out) HWX.out (iK.same (by assumption)) (by omega) (iC.same (by assumption))).mono ?_; rw [(acc_no HO.out).1, (acc_no HO.out).2, HO.out]; rintro e w9 ⟨A9, c9, B9, d9, rfl, oK, oC, sp, hs9⟩; (have SX : Same w6 w9 := Same.trans (by assumption) hs9); (first | (have zb : BoxAt w9 wr.heap.size 29 [.slice none 0 0, .slice none 0 0] := BoxAt.same (BoxAt.new wr _ [_, _]).drew hs9) | (have zb : BoxAt w9 wr.heap.size 29 [.slice none 0 0, .slice none 0 0] := BoxAt.same (BoxAt.same (BoxAt.new wr 29 [.slice none 0 0, .slice none 0 0]) (Same.refl _).drew) hs9) | skip); (try (have z0 := zb.cell 0 rfl; have z1 := zb.cell 1 rfl; have z2 := zb.frozen 0; have z3 := zb.frozen 1))))
              all_goals go_wp2_with fail
              all_goals go_meet
              all_goals first | exact ⟨rfl, SX.alloc _⟩ | exact ⟨rfl, (SX.setCell n8 _).setCell n8 _⟩
            case rest =>
              obtain ⟨rfl, S9⟩ := hcut
              go_wp2
              go_roundw
              case rel => exact ⟨j + 1, hlt2, by go_num, S9⟩
              case measure => simp [intOf]; omega
          · have hneg2 : ¬ (j : Int) < (K.length : Int) := by omega
            have x0 := (hb5.same S8).cell 0 rfl
            have x1 := (hb5.same S8).cell 1 rfl
            go_wp2_with fail
            refine (iRunOk_any m A2 c2 X _ (by omega) hcX (iX.same S8)).mono ?_
            rintro e w7 ⟨rfl, hs7⟩
            rw [HCO.out]
            have b0 := (hb4.same (S8.trans hs7)).cell 0 rfl
            have b1 := (hb4.same (S8.trans hs7)).cell 1 rfl
            go_wp2_with fail
            refine (iBankOk_any B1 D1 d1 f1 K C _ (by omega) (by omega) (wide_ok HOB.out) (iK.same (S8.trans hs7)) (iC.same (S8.trans hs7))).mono ?_
            rintro e w8 ⟨rfl, hs8⟩
            rw [HOB.out]
            go_wp2
            go_ret
            exact ⟨rfl, S6.trans ((S8.trans hs7).trans hs8)⟩
  · go_enter Try.func11, Try.ntmps11
    go_wp2_with (go_at_call 16; refine (big_yes A n c _ hn hbig).mono ?_; rintro e w' ⟨rfl, rfl⟩)
    go_ret
    exact ⟨rfl, Same.refl _⟩
end Go.Proofs.Ytccgbilgfnoheaa
