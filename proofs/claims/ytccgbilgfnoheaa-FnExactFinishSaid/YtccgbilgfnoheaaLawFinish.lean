/-
  FnExactFinish: for every run and bank the program's Finish and the reference's hand back the same run and bank, in memory of their own, and the arguments are left as they were. No condition.
-/
import Derived.Test.YtccgbilgfnoheaaFinishS
import Derived.Test.YtccgbilgfnoheaaOnly
import Derived.Deep.Cut
import Derived.Deep.CutRange
namespace Go.Proofs.Ytccgbilgfnoheaa
open Go.RowKit
set_option linter.unusedVariables false

set_option maxRecDepth 10000 in
set_option maxHeartbeats 8000000 in
theorem lawFinish (r0 : Int) (Ar1 : Option Addr) (cr1 : Nat) (r1 : List TItem) (Ab0 : Option Addr) (cb0 : Nat) (b0 : List Int) (Ab1 : Option Addr) (cb1 : Nat) (b1 : List Int) (w : World) (hzr1 : r1.length ≤ 9223372036854775807) (hAr1 : AtItem w Ar1 r1) (hzb0 : b0.length ≤ 9223372036854775807) (hAb0 : IntsAt w Ab0 b0) (hwb0 : Wide b0) (hzb1 : b1.length ≤ 9223372036854775807) (hAb1 : IntsAt w Ab1 b1) (hwb1 : Wide b1) :
    Calls Try.prog 15 #[.agg #[.int .i64 r0, .slice Ar1 r1.length cr1], .agg #[.slice Ab0 b0.length cb0, .slice Ab1 b1.length cb1]] w fun e w' => e = .returned (.bool true) ∧ Same w w' := by
  by_cases hl0 : (r1.length : Int) ≤ 1048576
  · by_cases hl1 : (b0.length : Int) + (b1.length : Int) ≤ 1048576 - (r1.length : Int)
    · obtain ⟨R0, hR0⟩ : ∃ R0, R0 = finL r0 r1 b0 b1 := ⟨_, rfl⟩
      have hlR0 : R0.length ≤ 1100000 := by rw [hR0]; exact (by rw [finL_len]; omega)
      have hzR0 : R0.length ≤ 9223372036854775807 := by omega
      have HR0 := Lib.hid hR0
      clear hR0
      obtain ⟨K1, hK1⟩ : ∃ K1, K1 = finK r0 r1 b0 b1 := ⟨_, rfl⟩
      have hlK1 : K1.length ≤ 1100000 := by rw [hK1]; exact (by have := (finKC_len r0 r1 b0 b1).1; omega)
      have hzK1 : K1.length ≤ 9223372036854775807 := by omega
      have HK1 := Lib.hid hK1
      clear hK1
      obtain ⟨C1, hC1⟩ : ∃ C1, C1 = finC r0 r1 b0 b1 := ⟨_, rfl⟩
      have hlC1 : C1.length ≤ 1100000 := by rw [hC1]; exact (by have := (finKC_len r0 r1 b0 b1).2; omega)
      have hzC1 : C1.length ≤ 9223372036854775807 := by omega
      have HC1 := Lib.hid hC1
      clear hC1
      go_enter Try.func15, Try.ntmps15
      go_wp2_with fail
      have har : BoxAt ((w.alloc (.cells #[.int .i64 r0, .slice Ar1 r1.length cr1] 49)).alloc (.cells #[.slice Ab0 b0.length cb0, .slice Ab1 b1.length cb1] 42)) (w.heap.size) 49 [.int .i64 r0, .slice Ar1 r1.length cr1] := by simpa using (BoxAt.alloc (BoxAt.new w 49 [.int .i64 r0, .slice Ar1 r1.length cr1]) (.cells #[.slice Ab0 b0.length cb0, .slice Ab1 b1.length cb1] 42))
      have hab : BoxAt ((w.alloc (.cells #[.int .i64 r0, .slice Ar1 r1.length cr1] 49)).alloc (.cells #[.slice Ab0 b0.length cb0, .slice Ab1 b1.length cb1] 42)) (w.heap.size + 1) 42 [.slice Ab0 b0.length cb0, .slice Ab1 b1.length cb1] := by simpa using (BoxAt.new (w.alloc (.cells #[.int .i64 r0, .slice Ar1 r1.length cr1] 49)) 42 [.slice Ab0 b0.length cb0, .slice Ab1 b1.length cb1])
      have hs0 := (Same.alloc (Same.alloc (Same.refl w) (.cells #[.int .i64 r0, .slice Ar1 r1.length cr1] 49)) (.cells #[.slice Ab0 b0.length cb0, .slice Ab1 b1.length cb1] 42))
      have m0 : w.heap.size + 2 ≤ ((w.alloc (.cells #[.int .i64 r0, .slice Ar1 r1.length cr1] 49)).alloc (.cells #[.slice Ab0 b0.length cb0, .slice Ab1 b1.length cb1] 42)).heap.size := by simp
      generalize ((w.alloc (.cells #[.int .i64 r0, .slice Ar1 r1.length cr1] 49)).alloc (.cells #[.slice Ab0 b0.length cb0, .slice Ab1 b1.length cb1] 42)) = w0 at *
      have n0 := Same.size hs0
      have S0 : Same w w0 := Same.trans (Same.refl w) hs0
      clear hs0
      refine (szRun_any r0 Ar1 r1.length cr1 1048576 _ hzr1 (by omega) (by omega)).mono ?_
      rintro e w1 ⟨rfl, hs1⟩
      replace har := BoxAt.same har hs1
      replace hab := BoxAt.same hab hs1
      have n1 := Same.size hs1
      have S1 : Same w w1 := Same.trans S0 hs1
      clear hs1 S0
      rw [if_pos hl0]
      have har_0 := har.cell 0 rfl
      have har_1 := har.cell 1 rfl
      have hab_0 := hab.cell 0 rfl
      have hab_1 := hab.cell 1 rfl
      go_wp2_with fail
      refine (szBank_any Ab0 b0.length cb0 Ab1 b1.length cb1 (1048576 - (r1.length : Int)) _ hzb0 hzb1 (by omega) (by omega)).mono ?_
      rintro e w2 ⟨rfl, hs2⟩
      clear har_0 har_1 hab_0 hab_1
      replace har := BoxAt.same har hs2
      replace hab := BoxAt.same hab hs2
      have n2 := Same.size hs2
      have S2 : Same w w2 := Same.trans S1 hs2
      clear hs2 S1
      rw [if_pos hl1]
      have hlr1 : r1.length ≤ 1048576 := by omega
      have hlb0 : b0.length ≤ 1048576 := by omega
      have hlb1 : b1.length ≤ 1048576 := by omega
      have har_0 := har.cell 0 rfl
      have har_1 := har.cell 1 rfl
      have hab_0 := hab.cell 0 rfl
      have hab_1 := hab.cell 1 rfl
      go_wp2_with fail
      go_upto_region 8 with (fail)
      go_cut [6, 7] from 27 to 34 (fun t6 t7 wx => RBFin w2 r0 R0 K1 C1 t6 t7 wx)
      case first =>
        refine wp_region_fill [6, 7, 27, 28, 29, 30, 31, 32, 33, 34] (by kernel_rfl) (by kernel_rfl) (fun l t x1 => RBInv w2 (.agg #[.int .i64 r0, .slice Ar1 r1.length cr1]) (.agg #[.slice Ab0 b0.length cb0, .slice Ab1 b1.length cb1]) undef r0 r1 b0 b1 r0 R0 K1 C1 (.bool true) (fun ρ => .tuple #[.agg #[.int .i64 r0, .slice ρ.A R0.length ρ.c], .agg #[.slice ρ.B K1.length ρ.d, .slice ρ.D C1.length ρ.f]]) (l 0) (l 1) (l 2) (l 3) false (l 4) (l 5) (l 6) (l 7) false (l 8) (l 9) (l 10) (l 11) false (t 28) (t 29) (t 30) (t 31) undef (t 32) (t 27) (t 33) (t 34) undef (t 6) (t 7) undef x1) ?_ ?_ ?_
        · exact RBInv.start (Same.refl _).drew
        · refine ⟨⟨by rfl, ?_⟩, ⟨by rfl, ?_⟩, ⟨by rfl, ?_⟩, ⟨by rfl, ?_⟩, ⟨by rfl, ?_⟩, ⟨by rfl, ?_⟩, ⟨by rfl, ?_⟩, ⟨by rfl, ?_⟩, ⟨by rfl, ?_⟩, ⟨by rfl, ?_⟩, ⟨by rfl, ?_⟩, ⟨by rfl, ?_⟩, trivial⟩
          all_goals intro l t x1 K' hK i hl hd
          all_goals simp [Region.binds] at hd
          all_goals (try dsimp only at i)
          all_goals simp only [fill, List.foldl, Act.put, List.setIfInBounds_toArray, List.set_cons_zero, List.set_cons_succ]
          · have c0 := (har.same i.same).cell 0 rfl
            have c1 := (har.same i.same).cell 1 rfl
            go_simp
            have H := hK (updT t 28 (.agg #[.int .i64 r0, .slice Ar1 r1.length cr1])) _ (i.s_lr)
            simp only [fill, List.foldl, Act.put, List.setIfInBounds_toArray, List.set_cons_zero, List.set_cons_succ, updT, Nat.reduceEqDiff, reduceIte] at H
            exact H
          · have hlx : l 0 = true := by go_split_ands; assumption
            have e := i.hlr hlx
            go_simp
            go_at_call 31
            refine (toRun_any r0 Ar1 cr1 r1 _ hlr1 (hAr1.same (Same.trans S2 i.same))).mono ?_
            rintro e w2 ⟨A2, c2, rfl, ho, hs2⟩
            have H := hK (updT t 29 (.agg #[.int .i64 r0, .slice A2 r1.length c2])) _ (i.s_cr ho hs2)
            simp only [fill, List.foldl, Act.put, List.setIfInBounds_toArray, List.set_cons_zero, List.set_cons_succ, updT, Nat.reduceEqDiff, reduceIte, e] at H
            dsimp only
            exact H
          · have c0 := (hab.same i.same).cell 0 rfl
            have c1 := (hab.same i.same).cell 1 rfl
            go_simp
            have H := hK (updT t 30 (.agg #[.slice Ab0 b0.length cb0, .slice Ab1 b1.length cb1])) _ (i.s_lb)
            simp only [fill, List.foldl, Act.put, List.setIfInBounds_toArray, List.set_cons_zero, List.set_cons_succ, updT, Nat.reduceEqDiff, reduceIte] at H
            exact H
          · have hlx : l 2 = true := by go_split_ands; assumption
            have e := i.hlb hlx
            go_simp
            go_at_call 27
            refine (toBank_any Ab0 cb0 b0 Ab1 cb1 b1 _ hlb0 (hAb0.same (Same.trans S2 i.same)) hlb1 (hAb1.same (Same.trans S2 i.same))).mono ?_
            rintro e w2 ⟨A2, c2, B2, d2, rfl, ho, hp, spx, hs2⟩
            have H := hK (updT t 31 (.agg #[.slice A2 b0.length c2, .slice B2 b1.length d2])) _ (i.s_cb ho hp hs2)
            simp only [fill, List.foldl, Act.put, List.setIfInBounds_toArray, List.set_cons_zero, List.set_cons_succ, updT, Nat.reduceEqDiff, reduceIte, e] at H
            dsimp only
            exact H
          · have qcr : l 1 = true := by go_split_ands; assumption
            have qcb : l 3 = true := by go_split_ands; assumption
            obtain ⟨A2, c2, e1, ho⟩ := i.hcr qcr hl
            obtain ⟨B2, d2, D2, f2, e2, hk, hc⟩ := i.hcb qcb hl
            go_simp
            go_at_call 49
            refine ((show Calls _ _ _ _ (RetRB _ r0 (finL r0 r1 b0 b1) (finK r0 r1 b0 b1) (finC r0 r1 b0 b1)) from sFinish_any r0 _ _ r1 _ _ b0 _ _ b1 _ (by omega) (OwnR.nil_cap2 ho) (OwnR.recs cItem_len ho) (by omega) (OwnI.nil_cap hk) (OwnI.cap hk) (OwnI.ints hk) (by omega) (OwnI.nil_cap hc) (OwnI.ints hc))).mono ?_
            rw [← HR0.out, ← HK1.out, ← HC1.out]
            rintro e w2 ⟨A4, c4, B4, d4, D4, f4, rfl, oi, ok, oc, z1, z2, z3, hs2⟩
            have H := hK (updT t 32 (.tuple #[.agg #[.int .i64 r0, .slice A4 R0.length c4], .agg #[.slice B4 K1.length d4, .slice D4 C1.length f4]])) _ (i.s_fc hl ⟨A4, c4, B4, d4, D4, f4⟩ ⟨oi, ok, oc, z1, z2, z3⟩ hs2)
            simp only [fill, List.foldl, Act.put, List.setIfInBounds_toArray, List.set_cons_zero, List.set_cons_succ, updT, Nat.reduceEqDiff, reduceIte, e1, e2] at H
            dsimp only
            exact H
          · have hfc : l 4 = true := by go_split_ands; assumption
            go_simp
            have H := hK (updT t 27 (t 32)) _ (i.s_mt hfc)
            simp only [fill, List.foldl, Act.put, List.setIfInBounds_toArray, List.set_cons_zero, List.set_cons_succ, updT, Nat.reduceEqDiff, reduceIte] at H
            exact H
          · have hmt : l 5 = true := by go_split_ands; assumption
            have hfc := i.f_mt hmt
            obtain ⟨ρ, k1, k2, k3, k4, k5, k6, k7, _⟩ := i.hF hfc
            have e : t 27 = .tuple #[.agg #[.int .i64 r0, .slice ρ.A R0.length ρ.c], .agg #[.slice ρ.B K1.length ρ.d, .slice ρ.D C1.length ρ.f]] := k2 hmt
            have kz := Lib.hid k1
            clear k1 k2 k3 k4 k5 k6 k7
            go_simp
            have H := hK (updT t 33 (.agg #[.int .i64 r0, .slice ρ.A R0.length ρ.c])) _ (i.s_e0 hfc ρ kz.out (fun ρ' h => by simp at h; unfold RBRes.run; rw [h.1.1, h.1.2]))
            simp only [fill, List.foldl, Act.put, List.setIfInBounds_toArray, List.set_cons_zero, List.set_cons_succ, updT, Nat.reduceEqDiff, reduceIte, e] at H
            exact H
          · have hmt : l 5 = true := by go_split_ands; assumption
            have hfc := i.f_mt hmt
            obtain ⟨ρ, k1, k2, k3, k4, k5, k6, k7, _⟩ := i.hF hfc
            have e : t 27 = .tuple #[.agg #[.int .i64 r0, .slice ρ.A R0.length ρ.c], .agg #[.slice ρ.B K1.length ρ.d, .slice ρ.D C1.length ρ.f]] := k2 hmt
            have kz := Lib.hid k1
            clear k1 k2 k3 k4 k5 k6 k7
            go_simp
            have H := hK (updT t 34 (.agg #[.slice ρ.B K1.length ρ.d, .slice ρ.D C1.length ρ.f])) _ (i.s_e1 hfc ρ kz.out (fun ρ' h => by simp at h; unfold RBRes.bank; simp [h]))
            simp only [fill, List.foldl, Act.put, List.setIfInBounds_toArray, List.set_cons_zero, List.set_cons_succ, updT, Nat.reduceEqDiff, reduceIte, e] at H
            exact H
          · go_simp
            have H := hK (updT t 6 (.pointer (some ⟨x1.heap.size, 0, none⟩))) _ (i.s_ar hl)
            simp only [fill, List.foldl, Act.put, List.setIfInBounds_toArray, List.set_cons_zero, List.set_cons_succ, updT, Nat.reduceEqDiff, reduceIte] at H
            exact H
          · go_simp
            have H := hK (updT t 7 (.pointer (some ⟨x1.heap.size, 0, none⟩))) _ (i.s_ab hl)
            simp only [fill, List.foldl, Act.put, List.setIfInBounds_toArray, List.set_cons_zero, List.set_cons_succ, updT, Nat.reduceEqDiff, reduceIte] at H
            exact H
          · have ha : l 8 = true := by go_split_ands; assumption
            have he : l 6 = true := by go_split_ands; assumption
            have hfc := i.f_e0 he
            obtain ⟨ρ, k1, k2, k3, k4, k5, k6, k7, _⟩ := i.hF hfc
            obtain ⟨g, p1, p2, p3, p4⟩ := i.har ha
            replace p4 := p4 hl
            have e : t 33 = .agg #[.int .i64 r0, .slice ρ.A R0.length ρ.c] := k3 he
            have kz := Lib.hid (k3 he)
            clear k1 k2 k3 k4 k5 k6 k7
            have f0 := p4.frozen 0
            have c0 := p4.cell 0 rfl
            have f1 := p4.frozen 1
            have c1 := p4.cell 1 rfl
            go_simp
            have H := hK (t) _ (i.s_sr he hfc ha p1 (ρ := ρ) hl kz.out)
            simp only [fill, List.foldl, Act.put, List.setIfInBounds_toArray, List.set_cons_zero, List.set_cons_succ, e, p1] at H
            exact H
          · have ha : l 9 = true := by go_split_ands; assumption
            have he : l 7 = true := by go_split_ands; assumption
            have hfc := i.f_e1 he
            obtain ⟨ρ, k1, k2, k3, k4, k5, k6, k7, _⟩ := i.hF hfc
            obtain ⟨g, p1, p2, p3, p4⟩ := i.hab ha
            replace p4 := p4 hl
            have e : t 34 = .agg #[.slice ρ.B K1.length ρ.d, .slice ρ.D C1.length ρ.f] := k4 he
            have kz := Lib.hid (k4 he)
            clear k1 k2 k3 k4 k5 k6 k7
            have f0 := p4.frozen 0
            have c0 := p4.cell 0 rfl
            have f1 := p4.frozen 1
            have c1 := p4.cell 1 rfl
            go_simp
            have H := hK (t) _ (i.s_sb he hfc ha p1 (ρ := ρ) hl kz.out)
            simp only [fill, List.foldl, Act.put, List.setIfInBounds_toArray, List.set_cons_zero, List.set_cons_succ, e, p1] at H
            exact H
        · intro l t x1 hl i
          have H := RBInv.fin i (hl 4 (by decide)) (hl 8 (by decide)) (hl 9 (by decide)) (hl 10 (by decide)) (hl 11 (by decide))
          replace H := H.1
          simp only [fill, List.foldl, Act.put, List.setIfInBounds_toArray, List.set_cons_zero, List.set_cons_succ]
          generalize t 6 = u6 at H ⊢
          generalize t 7 = u7 at H ⊢
          clear i hl
          go_wp2_with fail
          go_meet
          exact H
      clear har_0 har_1 hab_0 hab_1
      unfold RBFin at hcut
      obtain ⟨grq1, gbq1, Aw_R0, cw_R0, Aw_K1, cw_K1, Aw_C1, cw_C1, rfl, rfl, hw0, hw1, w_R0, w_K1, w_C1, spw_R0_K1, spw_R0_C1, spw_K1_C1, nrw_R0, nrw_K1, nrw_C1, nbw_R0, nbw_K1, nbw_C1, nnq1, ggq1, ghq1, hs3⟩ := hcut
      generalize wc = w3 at *
      have zw_R0 := Zn.of w_R0
      have zw_K1 := Zn.of w_K1
      have zw_C1 := Zn.of w_C1
      replace har := BoxAt.same har hs3
      replace hab := BoxAt.same hab hs3
      have n3 := Same.size hs3
      have S3 : Same w w3 := Same.trans S2 hs3
      clear hs3 S2
      have lthw0 := hw0.lt
      have lthw1 := hw1.lt
      have har_0 := har.cell 0 rfl
      have har_1 := har.cell 1 rfl
      have hab_0 := hab.cell 0 rfl
      have hab_1 := hab.cell 1 rfl
      have hw0_0 := hw0.cell 0 rfl
      have hw0_1 := hw0.cell 1 rfl
      have hw1_0 := hw1.cell 0 rfl
      have hw1_1 := hw1.cell 1 rfl
      go_wp2_with fail
      refine (toRun_any r0 Ar1 cr1 r1 _ hlr1 (hAr1.same S3)).mono ?_
      rintro e w4 ⟨Br14, er14, rfl, hxr1, hs4⟩
      clear har_0 har_1 hab_0 hab_1 hw0_0 hw0_1 hw1_0 hw1_1
      have zhxr1 := Zn.of hxr1
      replace har := BoxAt.same har hs4
      replace hab := BoxAt.same hab hs4
      replace w_R0 := OwnR.same w_R0 hs4
      replace w_K1 := OwnI.same w_K1 hs4
      replace w_C1 := OwnI.same w_C1 hs4
      replace hw0 := BoxAt.same hw0 hs4
      replace hw1 := BoxAt.same hw1 hs4
      have n4 := Same.size hs4
      have S4 : Same w w4 := Same.trans S3 hs4
      clear hs4 S3
      have hxr : BoxAt (w4.alloc (.cells #[.int .i64 r0, .slice Br14 r1.length er14] 26)) (w4.heap.size) 26 [.int .i64 r0, .slice Br14 r1.length er14] := by simpa using (BoxAt.new w4 26 [.int .i64 r0, .slice Br14 r1.length er14])
      have hs5 := (Same.alloc (Same.refl w4) (.cells #[.int .i64 r0, .slice Br14 r1.length er14] 26))
      have m5 : w4.heap.size + 1 ≤ (w4.alloc (.cells #[.int .i64 r0, .slice Br14 r1.length er14] 26)).heap.size := by simp
      replace har := BoxAt.same har hs5
      replace hab := BoxAt.same hab hs5
      replace w_R0 := OwnR.same w_R0 hs5
      replace w_K1 := OwnI.same w_K1 hs5
      replace w_C1 := OwnI.same w_C1 hs5
      replace hw0 := BoxAt.same hw0 hs5
      replace hw1 := BoxAt.same hw1 hs5
      replace hxr1 := OwnR.same hxr1 hs5
      have har_0 := har.cell 0 rfl
      have har_1 := har.cell 1 rfl
      have hab_0 := hab.cell 0 rfl
      have hab_1 := hab.cell 1 rfl
      have hw0_0 := hw0.cell 0 rfl
      have hw0_1 := hw0.cell 1 rfl
      have hw1_0 := hw1.cell 0 rfl
      have hw1_1 := hw1.cell 1 rfl
      have hxr_0 := hxr.cell 0 rfl
      have hxr_1 := hxr.cell 1 rfl
      go_wp2_with fail
      generalize (w4.alloc (.cells #[.int .i64 r0, .slice Br14 r1.length er14] 26)) = w5 at *
      have n5 := Same.size hs5
      have S5 : Same w w5 := Same.trans S4 hs5
      clear hs5 S4
      refine (toBank_any Ab0 cb0 b0 Ab1 cb1 b1 _ hlb0 (hAb0.same S5) hlb1 (hAb1.same S5)).mono ?_
      rintro e w6 ⟨Bb06, eb06, Bb16, eb16, rfl, hxb0, hxb1, sp6, hs6⟩
      clear har_0 har_1 hab_0 hab_1 hw0_0 hw0_1 hw1_0 hw1_1 hxr_0 hxr_1
      have zhxb0 := Zn.of hxb0
      have zhxb1 := Zn.of hxb1
      replace har := BoxAt.same har hs6
      replace hab := BoxAt.same hab hs6
      replace w_R0 := OwnR.same w_R0 hs6
      replace w_K1 := OwnI.same w_K1 hs6
      replace w_C1 := OwnI.same w_C1 hs6
      replace hw0 := BoxAt.same hw0 hs6
      replace hw1 := BoxAt.same hw1 hs6
      replace hxr1 := OwnR.same hxr1 hs6
      replace hxr := BoxAt.same hxr hs6
      have n6 := Same.size hs6
      have S6 : Same w w6 := Same.trans S5 hs6
      clear hs6 S5
      have hxb : BoxAt (w6.alloc (.cells #[.slice Bb06 b0.length eb06, .slice Bb16 b1.length eb16] 29)) (w6.heap.size) 29 [.slice Bb06 b0.length eb06, .slice Bb16 b1.length eb16] := by simpa using (BoxAt.new w6 29 [.slice Bb06 b0.length eb06, .slice Bb16 b1.length eb16])
      have hs7 := (Same.alloc (Same.refl w6) (.cells #[.slice Bb06 b0.length eb06, .slice Bb16 b1.length eb16] 29))
      have m7 : w6.heap.size + 1 ≤ (w6.alloc (.cells #[.slice Bb06 b0.length eb06, .slice Bb16 b1.length eb16] 29)).heap.size := by simp
      replace har := BoxAt.same har hs7
      replace hab := BoxAt.same hab hs7
      replace w_R0 := OwnR.same w_R0 hs7
      replace w_K1 := OwnI.same w_K1 hs7
      replace w_C1 := OwnI.same w_C1 hs7
      replace hw0 := BoxAt.same hw0 hs7
      replace hw1 := BoxAt.same hw1 hs7
      replace hxr1 := OwnR.same hxr1 hs7
      replace hxr := BoxAt.same hxr hs7
      replace hxb0 := OwnI.same hxb0 hs7
      replace hxb1 := OwnI.same hxb1 hs7
      have har_0 := har.cell 0 rfl
      have har_1 := har.cell 1 rfl
      have hab_0 := hab.cell 0 rfl
      have hab_1 := hab.cell 1 rfl
      have hw0_0 := hw0.cell 0 rfl
      have hw0_1 := hw0.cell 1 rfl
      have hw1_0 := hw1.cell 0 rfl
      have hw1_1 := hw1.cell 1 rfl
      have hxr_0 := hxr.cell 0 rfl
      have hxr_1 := hxr.cell 1 rfl
      have hxb_0 := hxb.cell 0 rfl
      have hxb_1 := hxb.cell 1 rfl
      go_wp2_with fail
      generalize (w6.alloc (.cells #[.slice Bb06 b0.length eb06, .slice Bb16 b1.length eb16] 29)) = w7 at *
      have n7 := Same.size hs7
      have S7 : Same w w7 := Same.trans S6 hs7
      clear hs7 S6
      refine ((show Calls _ _ _ _ (RetRB _ r0 (finL r0 r1 b0 b1) (finK r0 r1 b0 b1) (finC r0 r1 b0 b1)) from iFinish_any r0 _ _ r1 _ _ b0 _ _ b1 _ (by omega) (OwnR.cap hxr1) (OwnR.recs cItem_len hxr1) (by omega) (OwnI.ints hxb0) hwb0 (by omega) (OwnI.ints hxb1))).mono ?_
      rw [← HR0.out, ← HK1.out, ← HC1.out]
      rintro e w8 ⟨Ag_R0, cg_R0, Ag_K1, cg_K1, Ag_C1, cg_C1, rfl, g_R0, g_K1, g_C1, spg_R0_K1, spg_R0_C1, spg_K1_C1, hs8⟩
      clear har_0 har_1 hab_0 hab_1 hw0_0 hw0_1 hw1_0 hw1_1 hxr_0 hxr_1 hxb_0 hxb_1
      have zg_R0 := Zn.of g_R0
      have zg_K1 := Zn.of g_K1
      have zg_C1 := Zn.of g_C1
      replace har := BoxAt.same har hs8
      replace hab := BoxAt.same hab hs8
      replace w_R0 := OwnR.same w_R0 hs8
      replace w_K1 := OwnI.same w_K1 hs8
      replace w_C1 := OwnI.same w_C1 hs8
      replace hw0 := BoxAt.same hw0 hs8
      replace hw1 := BoxAt.same hw1 hs8
      replace hxr1 := OwnR.same hxr1 hs8
      replace hxr := BoxAt.same hxr hs8
      replace hxb0 := OwnI.same hxb0 hs8
      replace hxb1 := OwnI.same hxb1 hs8
      replace hxb := BoxAt.same hxb hs8
      have n8 := Same.size hs8
      have S8 : Same w w8 := Same.trans S7 hs8
      clear hs8 S7
      have hg0 : BoxAt ((w8.alloc (.cells #[.int .i64 r0, .slice Ag_R0 R0.length cg_R0] 26)).alloc (.cells #[.slice Ag_K1 K1.length cg_K1, .slice Ag_C1 C1.length cg_C1] 29)) (w8.heap.size) 26 [.int .i64 r0, .slice Ag_R0 R0.length cg_R0] := by simpa using (BoxAt.alloc (BoxAt.new w8 26 [.int .i64 r0, .slice Ag_R0 R0.length cg_R0]) (.cells #[.slice Ag_K1 K1.length cg_K1, .slice Ag_C1 C1.length cg_C1] 29))
      have hg1 : BoxAt ((w8.alloc (.cells #[.int .i64 r0, .slice Ag_R0 R0.length cg_R0] 26)).alloc (.cells #[.slice Ag_K1 K1.length cg_K1, .slice Ag_C1 C1.length cg_C1] 29)) (w8.heap.size + 1) 29 [.slice Ag_K1 K1.length cg_K1, .slice Ag_C1 C1.length cg_C1] := by simpa using (BoxAt.new (w8.alloc (.cells #[.int .i64 r0, .slice Ag_R0 R0.length cg_R0] 26)) 29 [.slice Ag_K1 K1.length cg_K1, .slice Ag_C1 C1.length cg_C1])
      have hs9 := (Same.alloc (Same.alloc (Same.refl w8) (.cells #[.int .i64 r0, .slice Ag_R0 R0.length cg_R0] 26)) (.cells #[.slice Ag_K1 K1.length cg_K1, .slice Ag_C1 C1.length cg_C1] 29))
      have m9 : w8.heap.size + 2 ≤ ((w8.alloc (.cells #[.int .i64 r0, .slice Ag_R0 R0.length cg_R0] 26)).alloc (.cells #[.slice Ag_K1 K1.length cg_K1, .slice Ag_C1 C1.length cg_C1] 29)).heap.size := by simp
      replace har := BoxAt.same har hs9
      replace hab := BoxAt.same hab hs9
      replace w_R0 := OwnR.same w_R0 hs9
      replace w_K1 := OwnI.same w_K1 hs9
      replace w_C1 := OwnI.same w_C1 hs9
      replace hw0 := BoxAt.same hw0 hs9
      replace hw1 := BoxAt.same hw1 hs9
      replace hxr1 := OwnR.same hxr1 hs9
      replace hxr := BoxAt.same hxr hs9
      replace hxb0 := OwnI.same hxb0 hs9
      replace hxb1 := OwnI.same hxb1 hs9
      replace hxb := BoxAt.same hxb hs9
      replace g_R0 := OwnR.same g_R0 hs9
      replace g_K1 := OwnI.same g_K1 hs9
      replace g_C1 := OwnI.same g_C1 hs9
      have har_0 := har.cell 0 rfl
      have har_1 := har.cell 1 rfl
      have hab_0 := hab.cell 0 rfl
      have hab_1 := hab.cell 1 rfl
      have hw0_0 := hw0.cell 0 rfl
      have hw0_1 := hw0.cell 1 rfl
      have hw1_0 := hw1.cell 0 rfl
      have hw1_1 := hw1.cell 1 rfl
      have hxr_0 := hxr.cell 0 rfl
      have hxr_1 := hxr.cell 1 rfl
      have hxb_0 := hxb.cell 0 rfl
      have hxb_1 := hxb.cell 1 rfl
      have hg0_0 := hg0.cell 0 rfl
      have hg0_1 := hg0.cell 1 rfl
      have hg1_0 := hg1.cell 0 rfl
      have hg1_1 := hg1.cell 1 rfl
      go_wp2_with fail
      generalize ((w8.alloc (.cells #[.int .i64 r0, .slice Ag_R0 R0.length cg_R0] 26)).alloc (.cells #[.slice Ag_K1 K1.length cg_K1, .slice Ag_C1 C1.length cg_C1] 29)) = w9 at *
      have n9 := Same.size hs9
      have S9 : Same w w9 := Same.trans S8 hs9
      clear hs9 S8
      refine (eqRun_any _ _ _ _ R0 R0 r0 r0 _ hzR0 hzR0 (OwnR.recs cItem_len g_R0) (OwnR.recs cItem_len w_R0)).mono ?_
      rintro e w10 ⟨rfl, hs10⟩
      clear har_0 har_1 hab_0 hab_1 hw0_0 hw0_1 hw1_0 hw1_1 hxr_0 hxr_1 hxb_0 hxb_1 hg0_0 hg0_1 hg1_0 hg1_1
      replace har := BoxAt.same har hs10
      replace hab := BoxAt.same hab hs10
      replace w_R0 := OwnR.same w_R0 hs10
      replace w_K1 := OwnI.same w_K1 hs10
      replace w_C1 := OwnI.same w_C1 hs10
      replace hw0 := BoxAt.same hw0 hs10
      replace hw1 := BoxAt.same hw1 hs10
      replace hxr1 := OwnR.same hxr1 hs10
      replace hxr := BoxAt.same hxr hs10
      replace hxb0 := OwnI.same hxb0 hs10
      replace hxb1 := OwnI.same hxb1 hs10
      replace hxb := BoxAt.same hxb hs10
      replace g_R0 := OwnR.same g_R0 hs10
      replace g_K1 := OwnI.same g_K1 hs10
      replace g_C1 := OwnI.same g_C1 hs10
      replace hg0 := BoxAt.same hg0 hs10
      replace hg1 := BoxAt.same hg1 hs10
      have n10 := Same.size hs10
      have S10 : Same w w10 := Same.trans S9 hs10
      clear hs10 S9
      rw [show (decide (R0 = R0) && decide (r0 = r0)) = true by simp]
      have har_0 := har.cell 0 rfl
      have har_1 := har.cell 1 rfl
      have hab_0 := hab.cell 0 rfl
      have hab_1 := hab.cell 1 rfl
      have hw0_0 := hw0.cell 0 rfl
      have hw0_1 := hw0.cell 1 rfl
      have hw1_0 := hw1.cell 0 rfl
      have hw1_1 := hw1.cell 1 rfl
      have hxr_0 := hxr.cell 0 rfl
      have hxr_1 := hxr.cell 1 rfl
      have hxb_0 := hxb.cell 0 rfl
      have hxb_1 := hxb.cell 1 rfl
      have hg0_0 := hg0.cell 0 rfl
      have hg0_1 := hg0.cell 1 rfl
      have hg1_0 := hg1.cell 0 rfl
      have hg1_1 := hg1.cell 1 rfl
      go_wp2_with fail
      refine (eqBank_any _ _ _ _ K1 K1 _ _ _ _ C1 C1 _ hzK1 hzK1 (OwnI.ints g_K1) (OwnI.ints w_K1) hzC1 hzC1 (OwnI.ints g_C1) (OwnI.ints w_C1)).mono ?_
      rintro e w11 ⟨rfl, hs11⟩
      clear har_0 har_1 hab_0 hab_1 hw0_0 hw0_1 hw1_0 hw1_1 hxr_0 hxr_1 hxb_0 hxb_1 hg0_0 hg0_1 hg1_0 hg1_1
      replace har := BoxAt.same har hs11
      replace hab := BoxAt.same hab hs11
      replace w_R0 := OwnR.same w_R0 hs11
      replace w_K1 := OwnI.same w_K1 hs11
      replace w_C1 := OwnI.same w_C1 hs11
      replace hw0 := BoxAt.same hw0 hs11
      replace hw1 := BoxAt.same hw1 hs11
      replace hxr1 := OwnR.same hxr1 hs11
      replace hxr := BoxAt.same hxr hs11
      replace hxb0 := OwnI.same hxb0 hs11
      replace hxb1 := OwnI.same hxb1 hs11
      replace hxb := BoxAt.same hxb hs11
      replace g_R0 := OwnR.same g_R0 hs11
      replace g_K1 := OwnI.same g_K1 hs11
      replace g_C1 := OwnI.same g_C1 hs11
      replace hg0 := BoxAt.same hg0 hs11
      replace hg1 := BoxAt.same hg1 hs11
      have n11 := Same.size hs11
      have S11 : Same w w11 := Same.trans S10 hs11
      clear hs11 S10
      rw [show (decide (K1 = K1) && decide (C1 = C1)) = true by simp]
      have har_0 := har.cell 0 rfl
      have har_1 := har.cell 1 rfl
      have hxr_0 := hxr.cell 0 rfl
      have hxr_1 := hxr.cell 1 rfl
      go_wp2_with fail
      go_region_held3 (fun w' => w'.cell? ⟨(w4.heap.size), 0, none⟩ = some (.int .i64 r0) ∧ w'.cell? ⟨(w4.heap.size), 1, none⟩ = some (.slice Br14 r1.length er14) ∧ w'.cell? ⟨(w.heap.size), 0, none⟩ = some (.int .i64 r0) ∧ w'.cell? ⟨(w.heap.size), 1, none⟩ = some (.slice Ar1 r1.length cr1))
        (first | exact ⟨(BoxAt.same hxr (Same.refl w11)).cell 0 rfl, (BoxAt.same hxr (Same.refl w11)).cell 1 rfl, (BoxAt.same har (Same.refl w11)).cell 0 rfl, (BoxAt.same har (Same.refl w11)).cell 1 rfl⟩ | exact ⟨(BoxAt.same hxr (Same.refl w11).drew).cell 0 rfl, (BoxAt.same hxr (Same.refl w11).drew).cell 1 rfl, (BoxAt.same har (Same.refl w11).drew).cell 0 rfl, (BoxAt.same har (Same.refl w11).drew).cell 1 rfl⟩ | exact ⟨(BoxAt.same hxr (Same.trans (Same.refl w11).drew hsq2_0)).cell 0 rfl, (BoxAt.same hxr (Same.trans (Same.refl w11).drew hsq2_0)).cell 1 rfl, (BoxAt.same har (Same.trans (Same.refl w11).drew hsq2_0)).cell 0 rfl, (BoxAt.same har (Same.trans (Same.refl w11).drew hsq2_0)).cell 1 rfl⟩ | exact ⟨(BoxAt.same hxr (Same.trans (Same.trans (Same.refl w11).drew hsq2_0) hsq2_1)).cell 0 rfl, (BoxAt.same hxr (Same.trans (Same.trans (Same.refl w11).drew hsq2_0) hsq2_1)).cell 1 rfl, (BoxAt.same har (Same.trans (Same.trans (Same.refl w11).drew hsq2_0) hsq2_1)).cell 0 rfl, (BoxAt.same har (Same.trans (Same.trans (Same.refl w11).drew hsq2_0) hsq2_1)).cell 1 rfl⟩)
        (first | (go_at_call 31; refine (toRun_any r0 Ar1 cr1 r1 _ hlr1 (hAr1.same (Same.trans S11 (Same.refl w11).drew))).mono ?_; rintro e wq2_0 ⟨Br1q2_0, er1q2_0, rfl, hq2_r1, hsq2_0⟩) | (go_at_call 32; refine (eqRun_any _ _ _ _ r1 r1 r0 r0 _ hzr1 hzr1 (OwnR.recs cItem_len (OwnR.same hxr1 (Same.trans (Same.refl w11).drew hsq2_0))) (OwnR.recs cItem_len hq2_r1)).mono ?_; rintro e w12 ⟨rfl, hsq2_1⟩; rw [show (decide (r1 = r1) && decide (r0 = r0)) = true by simp]))
      clear har_0 har_1 hxr_0 hxr_1
      have hs12 := (Same.trans (Same.trans (Same.refl w11).drew hsq2_0) hsq2_1)
      clear hsq2_0 hsq2_1 hq2_r1
      replace har := BoxAt.same har hs12
      replace hab := BoxAt.same hab hs12
      replace w_R0 := OwnR.same w_R0 hs12
      replace w_K1 := OwnI.same w_K1 hs12
      replace w_C1 := OwnI.same w_C1 hs12
      replace hw0 := BoxAt.same hw0 hs12
      replace hw1 := BoxAt.same hw1 hs12
      replace hxr1 := OwnR.same hxr1 hs12
      replace hxr := BoxAt.same hxr hs12
      replace hxb0 := OwnI.same hxb0 hs12
      replace hxb1 := OwnI.same hxb1 hs12
      replace hxb := BoxAt.same hxb hs12
      replace g_R0 := OwnR.same g_R0 hs12
      replace g_K1 := OwnI.same g_K1 hs12
      replace g_C1 := OwnI.same g_C1 hs12
      replace hg0 := BoxAt.same hg0 hs12
      replace hg1 := BoxAt.same hg1 hs12
      have n12 := Same.size hs12
      have S12 : Same w w12 := Same.trans S11 hs12
      clear hs12 S11
      have hab_0 := hab.cell 0 rfl
      have hab_1 := hab.cell 1 rfl
      have hxb_0 := hxb.cell 0 rfl
      have hxb_1 := hxb.cell 1 rfl
      go_wp2_with fail
      go_region_held3 (fun w' => w'.cell? ⟨(w6.heap.size), 0, none⟩ = some (.slice Bb06 b0.length eb06) ∧ w'.cell? ⟨(w6.heap.size), 1, none⟩ = some (.slice Bb16 b1.length eb16) ∧ w'.cell? ⟨(w.heap.size + 1), 0, none⟩ = some (.slice Ab0 b0.length cb0) ∧ w'.cell? ⟨(w.heap.size + 1), 1, none⟩ = some (.slice Ab1 b1.length cb1))
        (first | exact ⟨(BoxAt.same hxb (Same.refl w12)).cell 0 rfl, (BoxAt.same hxb (Same.refl w12)).cell 1 rfl, (BoxAt.same hab (Same.refl w12)).cell 0 rfl, (BoxAt.same hab (Same.refl w12)).cell 1 rfl⟩ | exact ⟨(BoxAt.same hxb (Same.refl w12).drew).cell 0 rfl, (BoxAt.same hxb (Same.refl w12).drew).cell 1 rfl, (BoxAt.same hab (Same.refl w12).drew).cell 0 rfl, (BoxAt.same hab (Same.refl w12).drew).cell 1 rfl⟩ | exact ⟨(BoxAt.same hxb (Same.trans (Same.refl w12).drew hsq3_0)).cell 0 rfl, (BoxAt.same hxb (Same.trans (Same.refl w12).drew hsq3_0)).cell 1 rfl, (BoxAt.same hab (Same.trans (Same.refl w12).drew hsq3_0)).cell 0 rfl, (BoxAt.same hab (Same.trans (Same.refl w12).drew hsq3_0)).cell 1 rfl⟩ | exact ⟨(BoxAt.same hxb (Same.trans (Same.trans (Same.refl w12).drew hsq3_0) hsq3_1)).cell 0 rfl, (BoxAt.same hxb (Same.trans (Same.trans (Same.refl w12).drew hsq3_0) hsq3_1)).cell 1 rfl, (BoxAt.same hab (Same.trans (Same.trans (Same.refl w12).drew hsq3_0) hsq3_1)).cell 0 rfl, (BoxAt.same hab (Same.trans (Same.trans (Same.refl w12).drew hsq3_0) hsq3_1)).cell 1 rfl⟩)
        (first | (go_at_call 27; refine (toBank_any Ab0 cb0 b0 Ab1 cb1 b1 _ hlb0 (hAb0.same (Same.trans S12 (Same.refl w12).drew)) hlb1 (hAb1.same (Same.trans S12 (Same.refl w12).drew))).mono ?_; rintro e wq3_0 ⟨Bb0q3_0, eb0q3_0, Bb1q3_0, eb1q3_0, rfl, hq3_b0, hq3_b1, spq3_0, hsq3_0⟩) | (go_at_call 28; refine (eqBank_any _ _ _ _ b0 b0 _ _ _ _ b1 b1  _ hzb0 hzb0 (OwnI.ints (OwnI.same hxb0 (Same.trans (Same.refl w12).drew hsq3_0))) (OwnI.ints hq3_b0) hzb1 hzb1 (OwnI.ints (OwnI.same hxb1 (Same.trans (Same.refl w12).drew hsq3_0))) (OwnI.ints hq3_b1)).mono ?_; rintro e w13 ⟨rfl, hsq3_1⟩; rw [show (decide (b0 = b0) && decide (b1 = b1)) = true by simp]))
      clear hab_0 hab_1 hxb_0 hxb_1
      have hs13 := (Same.trans (Same.trans (Same.refl w12).drew hsq3_0) hsq3_1)
      clear hsq3_0 hsq3_1 hq3_b0 hq3_b1 spq3_0
      replace har := BoxAt.same har hs13
      replace hab := BoxAt.same hab hs13
      replace w_R0 := OwnR.same w_R0 hs13
      replace w_K1 := OwnI.same w_K1 hs13
      replace w_C1 := OwnI.same w_C1 hs13
      replace hw0 := BoxAt.same hw0 hs13
      replace hw1 := BoxAt.same hw1 hs13
      replace hxr1 := OwnR.same hxr1 hs13
      replace hxr := BoxAt.same hxr hs13
      replace hxb0 := OwnI.same hxb0 hs13
      replace hxb1 := OwnI.same hxb1 hs13
      replace hxb := BoxAt.same hxb hs13
      replace g_R0 := OwnR.same g_R0 hs13
      replace g_K1 := OwnI.same g_K1 hs13
      replace g_C1 := OwnI.same g_C1 hs13
      replace hg0 := BoxAt.same hg0 hs13
      replace hg1 := BoxAt.same hg1 hs13
      have n13 := Same.size hs13
      have S13 : Same w w13 := Same.trans S12 hs13
      clear hs13 S12
      have har_0 := har.cell 0 rfl
      have har_1 := har.cell 1 rfl
      have hab_0 := hab.cell 0 rfl
      have hab_1 := hab.cell 1 rfl
      have hw0_0 := hw0.cell 0 rfl
      have hw0_1 := hw0.cell 1 rfl
      have hw1_0 := hw1.cell 0 rfl
      have hw1_1 := hw1.cell 1 rfl
      have hxr_0 := hxr.cell 0 rfl
      have hxr_1 := hxr.cell 1 rfl
      have hxb_0 := hxb.cell 0 rfl
      have hxb_1 := hxb.cell 1 rfl
      have hg0_0 := hg0.cell 0 rfl
      have hg0_1 := hg0.cell 1 rfl
      have hg1_0 := hg1.cell 0 rfl
      have hg1_1 := hg1.cell 1 rfl
      go_wp2_with fail
      refine (markRun_any r0 _ _ _ r1 1 _ _ rfl (by omega) (by omega) (by omega) hxr1).mono ?_
      rintro e w14 ⟨rfl, hx9r1, hu14⟩
      clear har_0 har_1 hab_0 hab_1 hw0_0 hw0_1 hw1_0 hw1_1 hxr_0 hxr_1 hxb_0 hxb_1 hg0_0 hg0_1 hg1_0 hg1_1
      replace har := Only1.box hu14 har (Zn.box zhxr1 (by omega))
      replace hab := Only1.box hu14 hab (Zn.box zhxr1 (by omega))
      replace w_R0 := Only1.owns hu14 w_R0 (Sep.symm (Sep.zn zw_R0 zhxr1 (by omega)))
      replace w_K1 := Only1.owns hu14 w_K1 (Sep.symm (Sep.zn zw_K1 zhxr1 (by omega)))
      replace w_C1 := Only1.owns hu14 w_C1 (Sep.symm (Sep.zn zw_C1 zhxr1 (by omega)))
      replace hw0 := Only1.box hu14 hw0 (Zn.box zhxr1 (by omega))
      replace hw1 := Only1.box hu14 hw1 (Zn.box zhxr1 (by omega))
      replace hxr := Only1.box hu14 hxr (Zn.box zhxr1 (by omega))
      replace hxb0 := Only1.owns hu14 hxb0 (Sep.zn zhxr1 zhxb0 (by omega))
      replace hxb1 := Only1.owns hu14 hxb1 (Sep.zn zhxr1 zhxb1 (by omega))
      replace hxb := Only1.box hu14 hxb (Zn.box zhxr1 (by omega))
      replace g_R0 := Only1.owns hu14 g_R0 (Sep.zn zhxr1 zg_R0 (by omega))
      replace g_K1 := Only1.owns hu14 g_K1 (Sep.zn zhxr1 zg_K1 (by omega))
      replace g_C1 := Only1.owns hu14 g_C1 (Sep.zn zhxr1 zg_C1 (by omega))
      replace hg0 := Only1.box hu14 hg0 (Zn.box zhxr1 (by omega))
      replace hg1 := Only1.box hu14 hg1 (Zn.box zhxr1 (by omega))
      have n14 := hu14.size
      have S14 : Same w w14 := Only1.same S13 hu14 (Zn.lo zhxr1 (by omega))
      clear hu14 S13 hxr1
      clear hx9r1 zhxr1
      clear hxr
      have har_0 := har.cell 0 rfl
      have har_1 := har.cell 1 rfl
      have hab_0 := hab.cell 0 rfl
      have hab_1 := hab.cell 1 rfl
      have hw0_0 := hw0.cell 0 rfl
      have hw0_1 := hw0.cell 1 rfl
      have hw1_0 := hw1.cell 0 rfl
      have hw1_1 := hw1.cell 1 rfl
      have hxb_0 := hxb.cell 0 rfl
      have hxb_1 := hxb.cell 1 rfl
      have hg0_0 := hg0.cell 0 rfl
      have hg0_1 := hg0.cell 1 rfl
      have hg1_0 := hg1.cell 0 rfl
      have hg1_1 := hg1.cell 1 rfl
      go_wp2_with fail
      refine (markBank_any _ _ _ b0 _ _ _ b1 (1 + 3 * (r1.length : Int)) _ _ _ rfl (by omega) rfl (by omega) (by omega) (by omega) hxb0 hxb1 sp6).mono ?_
      rintro e w15 ⟨rfl, hx9b0, hx9b1, hu15⟩
      clear har_0 har_1 hab_0 hab_1 hw0_0 hw0_1 hw1_0 hw1_1 hxb_0 hxb_1 hg0_0 hg0_1 hg1_0 hg1_1
      replace har := Only2.box hu15 har (Zn.box zhxb0 (by omega)) (Zn.box zhxb1 (by omega))
      replace hab := Only2.box hu15 hab (Zn.box zhxb0 (by omega)) (Zn.box zhxb1 (by omega))
      replace w_R0 := Only2.owns hu15 w_R0 (Sep.symm (Sep.zn zw_R0 zhxb0 (by omega))) (Sep.symm (Sep.zn zw_R0 zhxb1 (by omega)))
      replace w_K1 := Only2.owns hu15 w_K1 (Sep.symm (Sep.zn zw_K1 zhxb0 (by omega))) (Sep.symm (Sep.zn zw_K1 zhxb1 (by omega)))
      replace w_C1 := Only2.owns hu15 w_C1 (Sep.symm (Sep.zn zw_C1 zhxb0 (by omega))) (Sep.symm (Sep.zn zw_C1 zhxb1 (by omega)))
      replace hw0 := Only2.box hu15 hw0 (Zn.box zhxb0 (by omega)) (Zn.box zhxb1 (by omega))
      replace hw1 := Only2.box hu15 hw1 (Zn.box zhxb0 (by omega)) (Zn.box zhxb1 (by omega))
      replace hxb := Only2.box hu15 hxb (Zn.box zhxb0 (by omega)) (Zn.box zhxb1 (by omega))
      replace g_R0 := Only2.owns hu15 g_R0 (Sep.zn zhxb0 zg_R0 (by omega)) (Sep.zn zhxb1 zg_R0 (by omega))
      replace g_K1 := Only2.owns hu15 g_K1 (Sep.zn zhxb0 zg_K1 (by omega)) (Sep.zn zhxb1 zg_K1 (by omega))
      replace g_C1 := Only2.owns hu15 g_C1 (Sep.zn zhxb0 zg_C1 (by omega)) (Sep.zn zhxb1 zg_C1 (by omega))
      replace hg0 := Only2.box hu15 hg0 (Zn.box zhxb0 (by omega)) (Zn.box zhxb1 (by omega))
      replace hg1 := Only2.box hu15 hg1 (Zn.box zhxb0 (by omega)) (Zn.box zhxb1 (by omega))
      have n15 := hu15.size
      have S15 : Same w w15 := Only2.same S14 hu15 (Zn.lo zhxb0 (by omega)) (Zn.lo zhxb1 (by omega))
      clear hu15 S14 hxb0 hxb1
      clear hx9b0 zhxb0
      clear hx9b1 zhxb1
      clear hxb
      have har_0 := har.cell 0 rfl
      have har_1 := har.cell 1 rfl
      have hab_0 := hab.cell 0 rfl
      have hab_1 := hab.cell 1 rfl
      have hw0_0 := hw0.cell 0 rfl
      have hw0_1 := hw0.cell 1 rfl
      have hw1_0 := hw1.cell 0 rfl
      have hw1_1 := hw1.cell 1 rfl
      have hg0_0 := hg0.cell 0 rfl
      have hg0_1 := hg0.cell 1 rfl
      have hg1_0 := hg1.cell 0 rfl
      have hg1_1 := hg1.cell 1 rfl
      go_wp2_with fail
      refine (eqRun_any _ _ _ _ R0 R0 r0 r0 _ hzR0 hzR0 (OwnR.recs cItem_len g_R0) (OwnR.recs cItem_len w_R0)).mono ?_
      rintro e w16 ⟨rfl, hs16⟩
      clear har_0 har_1 hab_0 hab_1 hw0_0 hw0_1 hw1_0 hw1_1 hg0_0 hg0_1 hg1_0 hg1_1
      replace har := BoxAt.same har hs16
      replace hab := BoxAt.same hab hs16
      replace w_R0 := OwnR.same w_R0 hs16
      replace w_K1 := OwnI.same w_K1 hs16
      replace w_C1 := OwnI.same w_C1 hs16
      replace hw0 := BoxAt.same hw0 hs16
      replace hw1 := BoxAt.same hw1 hs16
      replace g_R0 := OwnR.same g_R0 hs16
      replace g_K1 := OwnI.same g_K1 hs16
      replace g_C1 := OwnI.same g_C1 hs16
      replace hg0 := BoxAt.same hg0 hs16
      replace hg1 := BoxAt.same hg1 hs16
      have n16 := Same.size hs16
      have S16 : Same w w16 := Same.trans S15 hs16
      clear hs16 S15
      rw [show (decide (R0 = R0) && decide (r0 = r0)) = true by simp]
      have har_0 := har.cell 0 rfl
      have har_1 := har.cell 1 rfl
      have hab_0 := hab.cell 0 rfl
      have hab_1 := hab.cell 1 rfl
      have hw0_0 := hw0.cell 0 rfl
      have hw0_1 := hw0.cell 1 rfl
      have hw1_0 := hw1.cell 0 rfl
      have hw1_1 := hw1.cell 1 rfl
      have hg0_0 := hg0.cell 0 rfl
      have hg0_1 := hg0.cell 1 rfl
      have hg1_0 := hg1.cell 0 rfl
      have hg1_1 := hg1.cell 1 rfl
      go_wp2_with fail
      refine (eqBank_any _ _ _ _ K1 K1 _ _ _ _ C1 C1 _ hzK1 hzK1 (OwnI.ints g_K1) (OwnI.ints w_K1) hzC1 hzC1 (OwnI.ints g_C1) (OwnI.ints w_C1)).mono ?_
      rintro e w17 ⟨rfl, hs17⟩
      clear har_0 har_1 hab_0 hab_1 hw0_0 hw0_1 hw1_0 hw1_1 hg0_0 hg0_1 hg1_0 hg1_1
      replace har := BoxAt.same har hs17
      replace hab := BoxAt.same hab hs17
      replace w_R0 := OwnR.same w_R0 hs17
      replace w_K1 := OwnI.same w_K1 hs17
      replace w_C1 := OwnI.same w_C1 hs17
      replace hw0 := BoxAt.same hw0 hs17
      replace hw1 := BoxAt.same hw1 hs17
      replace g_R0 := OwnR.same g_R0 hs17
      replace g_K1 := OwnI.same g_K1 hs17
      replace g_C1 := OwnI.same g_C1 hs17
      replace hg0 := BoxAt.same hg0 hs17
      replace hg1 := BoxAt.same hg1 hs17
      have n17 := Same.size hs17
      have S17 : Same w w17 := Same.trans S16 hs17
      clear hs17 S16
      rw [show (decide (K1 = K1) && decide (C1 = C1)) = true by simp]
      have har_0 := har.cell 0 rfl
      have har_1 := har.cell 1 rfl
      have hab_0 := hab.cell 0 rfl
      have hab_1 := hab.cell 1 rfl
      have hw0_0 := hw0.cell 0 rfl
      have hw0_1 := hw0.cell 1 rfl
      have hw1_0 := hw1.cell 0 rfl
      have hw1_1 := hw1.cell 1 rfl
      have hg0_0 := hg0.cell 0 rfl
      have hg0_1 := hg0.cell 1 rfl
      have hg1_0 := hg1.cell 0 rfl
      have hg1_1 := hg1.cell 1 rfl
      go_wp2_with fail
      refine (markRun_any r0 _ _ _ R0 1 _ _ rfl (by omega) (by omega) (by omega) g_R0).mono ?_
      rintro e w18 ⟨rfl, g9_R0, hu18⟩
      clear har_0 har_1 hab_0 hab_1 hw0_0 hw0_1 hw1_0 hw1_1 hg0_0 hg0_1 hg1_0 hg1_1
      replace har := Only1.box hu18 har (Zn.box zg_R0 (by omega))
      replace hab := Only1.box hu18 hab (Zn.box zg_R0 (by omega))
      replace w_R0 := Only1.owns hu18 w_R0 (Sep.symm (Sep.zn zw_R0 zg_R0 (by omega)))
      replace w_K1 := Only1.owns hu18 w_K1 (Sep.symm (Sep.zn zw_K1 zg_R0 (by omega)))
      replace w_C1 := Only1.owns hu18 w_C1 (Sep.symm (Sep.zn zw_C1 zg_R0 (by omega)))
      replace hw0 := Only1.box hu18 hw0 (Zn.box zg_R0 (by omega))
      replace hw1 := Only1.box hu18 hw1 (Zn.box zg_R0 (by omega))
      replace g_K1 := Only1.owns hu18 g_K1 (spg_R0_K1)
      replace g_C1 := Only1.owns hu18 g_C1 (spg_R0_C1)
      replace hg0 := Only1.box hu18 hg0 (Zn.box zg_R0 (by omega))
      replace hg1 := Only1.box hu18 hg1 (Zn.box zg_R0 (by omega))
      have n18 := hu18.size
      have S18 : Same w w18 := Only1.same S17 hu18 (Zn.lo zg_R0 (by omega))
      clear hu18 S17 g_R0
      have har_0 := har.cell 0 rfl
      have har_1 := har.cell 1 rfl
      have hab_0 := hab.cell 0 rfl
      have hab_1 := hab.cell 1 rfl
      have hw0_0 := hw0.cell 0 rfl
      have hw0_1 := hw0.cell 1 rfl
      have hw1_0 := hw1.cell 0 rfl
      have hw1_1 := hw1.cell 1 rfl
      have hg0_0 := hg0.cell 0 rfl
      have hg0_1 := hg0.cell 1 rfl
      have hg1_0 := hg1.cell 0 rfl
      have hg1_1 := hg1.cell 1 rfl
      go_wp2_with fail
      refine (markBank_any _ _ _ K1 _ _ _ C1 (1 + 3 * (R0.length : Int)) _ _ _ rfl (by omega) rfl (by omega) (by omega) (by omega) g_K1 g_C1 spg_K1_C1).mono ?_
      rintro e w19 ⟨rfl, g9_K1, g9_C1, hu19⟩
      clear har_0 har_1 hab_0 hab_1 hw0_0 hw0_1 hw1_0 hw1_1 hg0_0 hg0_1 hg1_0 hg1_1
      replace har := Only2.box hu19 har (Zn.box zg_K1 (by omega)) (Zn.box zg_C1 (by omega))
      replace hab := Only2.box hu19 hab (Zn.box zg_K1 (by omega)) (Zn.box zg_C1 (by omega))
      replace w_R0 := Only2.owns hu19 w_R0 (Sep.symm (Sep.zn zw_R0 zg_K1 (by omega))) (Sep.symm (Sep.zn zw_R0 zg_C1 (by omega)))
      replace w_K1 := Only2.owns hu19 w_K1 (Sep.symm (Sep.zn zw_K1 zg_K1 (by omega))) (Sep.symm (Sep.zn zw_K1 zg_C1 (by omega)))
      replace w_C1 := Only2.owns hu19 w_C1 (Sep.symm (Sep.zn zw_C1 zg_K1 (by omega))) (Sep.symm (Sep.zn zw_C1 zg_C1 (by omega)))
      replace hw0 := Only2.box hu19 hw0 (Zn.box zg_K1 (by omega)) (Zn.box zg_C1 (by omega))
      replace hw1 := Only2.box hu19 hw1 (Zn.box zg_K1 (by omega)) (Zn.box zg_C1 (by omega))
      replace g9_R0 := Only2.owns hu19 g9_R0 (Sep.symm spg_R0_K1) (Sep.symm spg_R0_C1)
      replace hg0 := Only2.box hu19 hg0 (Zn.box zg_K1 (by omega)) (Zn.box zg_C1 (by omega))
      replace hg1 := Only2.box hu19 hg1 (Zn.box zg_K1 (by omega)) (Zn.box zg_C1 (by omega))
      have n19 := hu19.size
      have S19 : Same w w19 := Only2.same S18 hu19 (Zn.lo zg_K1 (by omega)) (Zn.lo zg_C1 (by omega))
      clear hu19 S18 g_K1 g_C1
      have hq : ((1 + 3 * (R0.length : Int) + (K1.length : Int) + (C1.length : Int)) != (1 + 3 * (R0.length : Int) + (K1.length : Int) + (C1.length : Int))) = false := by simp
      have har_0 := har.cell 0 rfl
      have har_1 := har.cell 1 rfl
      have hab_0 := hab.cell 0 rfl
      have hab_1 := hab.cell 1 rfl
      have hw0_0 := hw0.cell 0 rfl
      have hw0_1 := hw0.cell 1 rfl
      have hw1_0 := hw1.cell 0 rfl
      have hw1_1 := hw1.cell 1 rfl
      have hg0_0 := hg0.cell 0 rfl
      have hg0_1 := hg0.cell 1 rfl
      have hg1_0 := hg1.cell 0 rfl
      have hg1_1 := hg1.cell 1 rfl
      go_wp2_with fail
      refine (heldRun_any r0 _ _ _ 1 _ (by omega) (by omega) (by omega) (OwnR.recs cItem_len g9_R0)).mono ?_
      rintro e w20 ⟨rfl, hs20⟩
      clear har_0 har_1 hab_0 hab_1 hw0_0 hw0_1 hw1_0 hw1_1 hg0_0 hg0_1 hg1_0 hg1_1
      replace har := BoxAt.same har hs20
      replace hab := BoxAt.same hab hs20
      replace w_R0 := OwnR.same w_R0 hs20
      replace w_K1 := OwnI.same w_K1 hs20
      replace w_C1 := OwnI.same w_C1 hs20
      replace hw0 := BoxAt.same hw0 hs20
      replace hw1 := BoxAt.same hw1 hs20
      replace g9_R0 := OwnR.same g9_R0 hs20
      replace g9_K1 := OwnI.same g9_K1 hs20
      replace g9_C1 := OwnI.same g9_C1 hs20
      replace hg0 := BoxAt.same hg0 hs20
      replace hg1 := BoxAt.same hg1 hs20
      have n20 := Same.size hs20
      have S20 : Same w w20 := Same.trans S19 hs20
      clear hs20 S19
      have har_0 := har.cell 0 rfl
      have har_1 := har.cell 1 rfl
      have hab_0 := hab.cell 0 rfl
      have hab_1 := hab.cell 1 rfl
      have hw0_0 := hw0.cell 0 rfl
      have hw0_1 := hw0.cell 1 rfl
      have hw1_0 := hw1.cell 0 rfl
      have hw1_1 := hw1.cell 1 rfl
      have hg0_0 := hg0.cell 0 rfl
      have hg0_1 := hg0.cell 1 rfl
      have hg1_0 := hg1.cell 0 rfl
      have hg1_1 := hg1.cell 1 rfl
      go_wp2_with fail
      refine (heldBank_any _ _ _ _ _ _ (1 + 3 * (R0.length : Int)) _ (by omega) (by omega) (by omega) (by omega) (OwnI.ints g9_K1) (OwnI.ints g9_C1)).mono ?_
      rintro e w21 ⟨rfl, hs21⟩
      clear har_0 har_1 hab_0 hab_1 hw0_0 hw0_1 hw1_0 hw1_1 hg0_0 hg0_1 hg1_0 hg1_1
      replace har := BoxAt.same har hs21
      replace hab := BoxAt.same hab hs21
      replace w_R0 := OwnR.same w_R0 hs21
      replace w_K1 := OwnI.same w_K1 hs21
      replace w_C1 := OwnI.same w_C1 hs21
      replace hw0 := BoxAt.same hw0 hs21
      replace hw1 := BoxAt.same hw1 hs21
      replace g9_R0 := OwnR.same g9_R0 hs21
      replace g9_K1 := OwnI.same g9_K1 hs21
      replace g9_C1 := OwnI.same g9_C1 hs21
      replace hg0 := BoxAt.same hg0 hs21
      replace hg1 := BoxAt.same hg1 hs21
      have n21 := Same.size hs21
      have S21 : Same w w21 := Same.trans S20 hs21
      clear hs21 S20
      have har_0 := har.cell 0 rfl
      have har_1 := har.cell 1 rfl
      have hab_0 := hab.cell 0 rfl
      have hab_1 := hab.cell 1 rfl
      go_wp2_with fail
      go_upto_region 35 with (fail)
      go_cut [15, 16] from 104 to 111 (fun t15 t16 wx => RBFin w21 r0 R0 K1 C1 t15 t16 wx)
      case first =>
        refine wp_region_fill [15, 16, 104, 105, 106, 107, 108, 109, 110, 111] (by kernel_rfl) (by kernel_rfl) (fun l t x1 => RBInv w21 (.agg #[.int .i64 r0, .slice Ar1 r1.length cr1]) (.agg #[.slice Ab0 b0.length cb0, .slice Ab1 b1.length cb1]) undef r0 r1 b0 b1 r0 R0 K1 C1 (.bool true) (fun ρ => .tuple #[.agg #[.int .i64 r0, .slice ρ.A R0.length ρ.c], .agg #[.slice ρ.B K1.length ρ.d, .slice ρ.D C1.length ρ.f]]) (l 0) (l 1) (l 2) (l 3) false (l 4) (l 5) (l 6) (l 7) false (l 8) (l 9) (l 10) (l 11) false (t 105) (t 106) (t 107) (t 108) undef (t 109) (t 104) (t 110) (t 111) undef (t 15) (t 16) undef x1) ?_ ?_ ?_
        · exact RBInv.start (Same.refl _).drew
        · refine ⟨⟨by rfl, ?_⟩, ⟨by rfl, ?_⟩, ⟨by rfl, ?_⟩, ⟨by rfl, ?_⟩, ⟨by rfl, ?_⟩, ⟨by rfl, ?_⟩, ⟨by rfl, ?_⟩, ⟨by rfl, ?_⟩, ⟨by rfl, ?_⟩, ⟨by rfl, ?_⟩, ⟨by rfl, ?_⟩, ⟨by rfl, ?_⟩, trivial⟩
          all_goals intro l t x1 K' hK i hl hd
          all_goals simp [Region.binds] at hd
          all_goals (try dsimp only at i)
          all_goals simp only [fill, List.foldl, Act.put, List.setIfInBounds_toArray, List.set_cons_zero, List.set_cons_succ]
          · have c0 := (har.same i.same).cell 0 rfl
            have c1 := (har.same i.same).cell 1 rfl
            go_simp
            have H := hK (updT t 105 (.agg #[.int .i64 r0, .slice Ar1 r1.length cr1])) _ (i.s_lr)
            simp only [fill, List.foldl, Act.put, List.setIfInBounds_toArray, List.set_cons_zero, List.set_cons_succ, updT, Nat.reduceEqDiff, reduceIte] at H
            exact H
          · have hlx : l 0 = true := by go_split_ands; assumption
            have e := i.hlr hlx
            go_simp
            go_at_call 31
            refine (toRun_any r0 Ar1 cr1 r1 _ hlr1 (hAr1.same (Same.trans S21 i.same))).mono ?_
            rintro e w2 ⟨A2, c2, rfl, ho, hs2⟩
            have H := hK (updT t 106 (.agg #[.int .i64 r0, .slice A2 r1.length c2])) _ (i.s_cr ho hs2)
            simp only [fill, List.foldl, Act.put, List.setIfInBounds_toArray, List.set_cons_zero, List.set_cons_succ, updT, Nat.reduceEqDiff, reduceIte, e] at H
            dsimp only
            exact H
          · have c0 := (hab.same i.same).cell 0 rfl
            have c1 := (hab.same i.same).cell 1 rfl
            go_simp
            have H := hK (updT t 107 (.agg #[.slice Ab0 b0.length cb0, .slice Ab1 b1.length cb1])) _ (i.s_lb)
            simp only [fill, List.foldl, Act.put, List.setIfInBounds_toArray, List.set_cons_zero, List.set_cons_succ, updT, Nat.reduceEqDiff, reduceIte] at H
            exact H
          · have hlx : l 2 = true := by go_split_ands; assumption
            have e := i.hlb hlx
            go_simp
            go_at_call 27
            refine (toBank_any Ab0 cb0 b0 Ab1 cb1 b1 _ hlb0 (hAb0.same (Same.trans S21 i.same)) hlb1 (hAb1.same (Same.trans S21 i.same))).mono ?_
            rintro e w2 ⟨A2, c2, B2, d2, rfl, ho, hp, spx, hs2⟩
            have H := hK (updT t 108 (.agg #[.slice A2 b0.length c2, .slice B2 b1.length d2])) _ (i.s_cb ho hp hs2)
            simp only [fill, List.foldl, Act.put, List.setIfInBounds_toArray, List.set_cons_zero, List.set_cons_succ, updT, Nat.reduceEqDiff, reduceIte, e] at H
            dsimp only
            exact H
          · have qcr : l 1 = true := by go_split_ands; assumption
            have qcb : l 3 = true := by go_split_ands; assumption
            obtain ⟨A2, c2, e1, ho⟩ := i.hcr qcr hl
            obtain ⟨B2, d2, D2, f2, e2, hk, hc⟩ := i.hcb qcb hl
            go_simp
            go_at_call 22
            refine ((show Calls _ _ _ _ (RetRB _ r0 (finL r0 r1 b0 b1) (finK r0 r1 b0 b1) (finC r0 r1 b0 b1)) from iFinish_any r0 _ _ r1 _ _ b0 _ _ b1 _ (by omega) (OwnR.cap ho) (OwnR.recs cItem_len ho) (by omega) (OwnI.ints hk) hwb0 (by omega) (OwnI.ints hc))).mono ?_
            rw [← HR0.out, ← HK1.out, ← HC1.out]
            rintro e w2 ⟨A4, c4, B4, d4, D4, f4, rfl, oi, ok, oc, z1, z2, z3, hs2⟩
            have H := hK (updT t 109 (.tuple #[.agg #[.int .i64 r0, .slice A4 R0.length c4], .agg #[.slice B4 K1.length d4, .slice D4 C1.length f4]])) _ (i.s_fc hl ⟨A4, c4, B4, d4, D4, f4⟩ ⟨oi, ok, oc, z1, z2, z3⟩ hs2)
            simp only [fill, List.foldl, Act.put, List.setIfInBounds_toArray, List.set_cons_zero, List.set_cons_succ, updT, Nat.reduceEqDiff, reduceIte, e1, e2] at H
            dsimp only
            exact H
          · have hfc : l 4 = true := by go_split_ands; assumption
            go_simp
            have H := hK (updT t 104 (t 109)) _ (i.s_mt hfc)
            simp only [fill, List.foldl, Act.put, List.setIfInBounds_toArray, List.set_cons_zero, List.set_cons_succ, updT, Nat.reduceEqDiff, reduceIte] at H
            exact H
          · have hmt : l 5 = true := by go_split_ands; assumption
            have hfc := i.f_mt hmt
            obtain ⟨ρ, k1, k2, k3, k4, k5, k6, k7, _⟩ := i.hF hfc
            have e : t 104 = .tuple #[.agg #[.int .i64 r0, .slice ρ.A R0.length ρ.c], .agg #[.slice ρ.B K1.length ρ.d, .slice ρ.D C1.length ρ.f]] := k2 hmt
            have kz := Lib.hid k1
            clear k1 k2 k3 k4 k5 k6 k7
            go_simp
            have H := hK (updT t 110 (.agg #[.int .i64 r0, .slice ρ.A R0.length ρ.c])) _ (i.s_e0 hfc ρ kz.out (fun ρ' h => by simp at h; unfold RBRes.run; rw [h.1.1, h.1.2]))
            simp only [fill, List.foldl, Act.put, List.setIfInBounds_toArray, List.set_cons_zero, List.set_cons_succ, updT, Nat.reduceEqDiff, reduceIte, e] at H
            exact H
          · have hmt : l 5 = true := by go_split_ands; assumption
            have hfc := i.f_mt hmt
            obtain ⟨ρ, k1, k2, k3, k4, k5, k6, k7, _⟩ := i.hF hfc
            have e : t 104 = .tuple #[.agg #[.int .i64 r0, .slice ρ.A R0.length ρ.c], .agg #[.slice ρ.B K1.length ρ.d, .slice ρ.D C1.length ρ.f]] := k2 hmt
            have kz := Lib.hid k1
            clear k1 k2 k3 k4 k5 k6 k7
            go_simp
            have H := hK (updT t 111 (.agg #[.slice ρ.B K1.length ρ.d, .slice ρ.D C1.length ρ.f])) _ (i.s_e1 hfc ρ kz.out (fun ρ' h => by simp at h; unfold RBRes.bank; simp [h]))
            simp only [fill, List.foldl, Act.put, List.setIfInBounds_toArray, List.set_cons_zero, List.set_cons_succ, updT, Nat.reduceEqDiff, reduceIte, e] at H
            exact H
          · go_simp
            have H := hK (updT t 15 (.pointer (some ⟨x1.heap.size, 0, none⟩))) _ (i.s_ar hl)
            simp only [fill, List.foldl, Act.put, List.setIfInBounds_toArray, List.set_cons_zero, List.set_cons_succ, updT, Nat.reduceEqDiff, reduceIte] at H
            exact H
          · go_simp
            have H := hK (updT t 16 (.pointer (some ⟨x1.heap.size, 0, none⟩))) _ (i.s_ab hl)
            simp only [fill, List.foldl, Act.put, List.setIfInBounds_toArray, List.set_cons_zero, List.set_cons_succ, updT, Nat.reduceEqDiff, reduceIte] at H
            exact H
          · have ha : l 8 = true := by go_split_ands; assumption
            have he : l 6 = true := by go_split_ands; assumption
            have hfc := i.f_e0 he
            obtain ⟨ρ, k1, k2, k3, k4, k5, k6, k7, _⟩ := i.hF hfc
            obtain ⟨g, p1, p2, p3, p4⟩ := i.har ha
            replace p4 := p4 hl
            have e : t 110 = .agg #[.int .i64 r0, .slice ρ.A R0.length ρ.c] := k3 he
            have kz := Lib.hid (k3 he)
            clear k1 k2 k3 k4 k5 k6 k7
            have f0 := p4.frozen 0
            have c0 := p4.cell 0 rfl
            have f1 := p4.frozen 1
            have c1 := p4.cell 1 rfl
            go_simp
            have H := hK (t) _ (i.s_sr he hfc ha p1 (ρ := ρ) hl kz.out)
            simp only [fill, List.foldl, Act.put, List.setIfInBounds_toArray, List.set_cons_zero, List.set_cons_succ, e, p1] at H
            exact H
          · have ha : l 9 = true := by go_split_ands; assumption
            have he : l 7 = true := by go_split_ands; assumption
            have hfc := i.f_e1 he
            obtain ⟨ρ, k1, k2, k3, k4, k5, k6, k7, _⟩ := i.hF hfc
            obtain ⟨g, p1, p2, p3, p4⟩ := i.hab ha
            replace p4 := p4 hl
            have e : t 111 = .agg #[.slice ρ.B K1.length ρ.d, .slice ρ.D C1.length ρ.f] := k4 he
            have kz := Lib.hid (k4 he)
            clear k1 k2 k3 k4 k5 k6 k7
            have f0 := p4.frozen 0
            have c0 := p4.cell 0 rfl
            have f1 := p4.frozen 1
            have c1 := p4.cell 1 rfl
            go_simp
            have H := hK (t) _ (i.s_sb he hfc ha p1 (ρ := ρ) hl kz.out)
            simp only [fill, List.foldl, Act.put, List.setIfInBounds_toArray, List.set_cons_zero, List.set_cons_succ, e, p1] at H
            exact H
        · intro l t x1 hl i
          have H := RBInv.fin i (hl 4 (by decide)) (hl 8 (by decide)) (hl 9 (by decide)) (hl 10 (by decide)) (hl 11 (by decide))
          replace H := H.1
          simp only [fill, List.foldl, Act.put, List.setIfInBounds_toArray, List.set_cons_zero, List.set_cons_succ]
          generalize t 15 = u15 at H ⊢
          generalize t 16 = u16 at H ⊢
          clear i hl
          go_wp2_with fail
          go_meet
          exact H
      clear har_0 har_1 hab_0 hab_1
      unfold RBFin at hcut
      obtain ⟨grq4, gbq4, Ah_R0, ch_R0, Ah_K1, ch_K1, Ah_C1, ch_C1, rfl, rfl, hh0, hh1, h_R0, h_K1, h_C1, sph_R0_K1, sph_R0_C1, sph_K1_C1, nrh_R0, nrh_K1, nrh_C1, nbh_R0, nbh_K1, nbh_C1, nnq4, ggq4, ghq4, hs22⟩ := hcut
      generalize wc = w22 at *
      have zh_R0 := Zn.of h_R0
      have zh_K1 := Zn.of h_K1
      have zh_C1 := Zn.of h_C1
      replace har := BoxAt.same har hs22
      replace hab := BoxAt.same hab hs22
      replace w_R0 := OwnR.same w_R0 hs22
      replace w_K1 := OwnI.same w_K1 hs22
      replace w_C1 := OwnI.same w_C1 hs22
      replace hw0 := BoxAt.same hw0 hs22
      replace hw1 := BoxAt.same hw1 hs22
      replace g9_R0 := OwnR.same g9_R0 hs22
      replace g9_K1 := OwnI.same g9_K1 hs22
      replace g9_C1 := OwnI.same g9_C1 hs22
      replace hg0 := BoxAt.same hg0 hs22
      replace hg1 := BoxAt.same hg1 hs22
      have n22 := Same.size hs22
      have S22 : Same w w22 := Same.trans S21 hs22
      clear hs22 S21
      have lthh0 := hh0.lt
      have lthh1 := hh1.lt
      have har_0 := har.cell 0 rfl
      have har_1 := har.cell 1 rfl
      have hab_0 := hab.cell 0 rfl
      have hab_1 := hab.cell 1 rfl
      have hw0_0 := hw0.cell 0 rfl
      have hw0_1 := hw0.cell 1 rfl
      have hw1_0 := hw1.cell 0 rfl
      have hw1_1 := hw1.cell 1 rfl
      have hg0_0 := hg0.cell 0 rfl
      have hg0_1 := hg0.cell 1 rfl
      have hg1_0 := hg1.cell 0 rfl
      have hg1_1 := hg1.cell 1 rfl
      have hh0_0 := hh0.cell 0 rfl
      have hh0_1 := hh0.cell 1 rfl
      have hh1_0 := hh1.cell 0 rfl
      have hh1_1 := hh1.cell 1 rfl
      go_wp2_with fail
      refine (eqRun_any _ _ _ _ R0 R0 r0 r0 _ hzR0 hzR0 (OwnR.recs cItem_len h_R0) (OwnR.recs cItem_len w_R0)).mono ?_
      rintro e w23 ⟨rfl, hs23⟩
      clear har_0 har_1 hab_0 hab_1 hw0_0 hw0_1 hw1_0 hw1_1 hg0_0 hg0_1 hg1_0 hg1_1 hh0_0 hh0_1 hh1_0 hh1_1
      replace har := BoxAt.same har hs23
      replace hab := BoxAt.same hab hs23
      replace w_R0 := OwnR.same w_R0 hs23
      replace w_K1 := OwnI.same w_K1 hs23
      replace w_C1 := OwnI.same w_C1 hs23
      replace hw0 := BoxAt.same hw0 hs23
      replace hw1 := BoxAt.same hw1 hs23
      replace g9_R0 := OwnR.same g9_R0 hs23
      replace g9_K1 := OwnI.same g9_K1 hs23
      replace g9_C1 := OwnI.same g9_C1 hs23
      replace hg0 := BoxAt.same hg0 hs23
      replace hg1 := BoxAt.same hg1 hs23
      replace h_R0 := OwnR.same h_R0 hs23
      replace h_K1 := OwnI.same h_K1 hs23
      replace h_C1 := OwnI.same h_C1 hs23
      replace hh0 := BoxAt.same hh0 hs23
      replace hh1 := BoxAt.same hh1 hs23
      have n23 := Same.size hs23
      have S23 : Same w w23 := Same.trans S22 hs23
      clear hs23 S22
      rw [show (decide (R0 = R0) && decide (r0 = r0)) = true by simp]
      have har_0 := har.cell 0 rfl
      have har_1 := har.cell 1 rfl
      have hab_0 := hab.cell 0 rfl
      have hab_1 := hab.cell 1 rfl
      have hw0_0 := hw0.cell 0 rfl
      have hw0_1 := hw0.cell 1 rfl
      have hw1_0 := hw1.cell 0 rfl
      have hw1_1 := hw1.cell 1 rfl
      have hg0_0 := hg0.cell 0 rfl
      have hg0_1 := hg0.cell 1 rfl
      have hg1_0 := hg1.cell 0 rfl
      have hg1_1 := hg1.cell 1 rfl
      have hh0_0 := hh0.cell 0 rfl
      have hh0_1 := hh0.cell 1 rfl
      have hh1_0 := hh1.cell 0 rfl
      have hh1_1 := hh1.cell 1 rfl
      go_wp2_with fail
      refine (eqBank_any _ _ _ _ K1 K1 _ _ _ _ C1 C1 _ hzK1 hzK1 (OwnI.ints h_K1) (OwnI.ints w_K1) hzC1 hzC1 (OwnI.ints h_C1) (OwnI.ints w_C1)).mono ?_
      rintro e w24 ⟨rfl, hs24⟩
      clear har_0 har_1 hab_0 hab_1 hw0_0 hw0_1 hw1_0 hw1_1 hg0_0 hg0_1 hg1_0 hg1_1 hh0_0 hh0_1 hh1_0 hh1_1
      replace har := BoxAt.same har hs24
      replace hab := BoxAt.same hab hs24
      replace w_R0 := OwnR.same w_R0 hs24
      replace w_K1 := OwnI.same w_K1 hs24
      replace w_C1 := OwnI.same w_C1 hs24
      replace hw0 := BoxAt.same hw0 hs24
      replace hw1 := BoxAt.same hw1 hs24
      replace g9_R0 := OwnR.same g9_R0 hs24
      replace g9_K1 := OwnI.same g9_K1 hs24
      replace g9_C1 := OwnI.same g9_C1 hs24
      replace hg0 := BoxAt.same hg0 hs24
      replace hg1 := BoxAt.same hg1 hs24
      replace h_R0 := OwnR.same h_R0 hs24
      replace h_K1 := OwnI.same h_K1 hs24
      replace h_C1 := OwnI.same h_C1 hs24
      replace hh0 := BoxAt.same hh0 hs24
      replace hh1 := BoxAt.same hh1 hs24
      have n24 := Same.size hs24
      have S24 : Same w w24 := Same.trans S23 hs24
      clear hs24 S23
      rw [show (decide (K1 = K1) && decide (C1 = C1)) = true by simp]
      have har_0 := har.cell 0 rfl
      have har_1 := har.cell 1 rfl
      have hab_0 := hab.cell 0 rfl
      have hab_1 := hab.cell 1 rfl
      have hw0_0 := hw0.cell 0 rfl
      have hw0_1 := hw0.cell 1 rfl
      have hw1_0 := hw1.cell 0 rfl
      have hw1_1 := hw1.cell 1 rfl
      have hg0_0 := hg0.cell 0 rfl
      have hg0_1 := hg0.cell 1 rfl
      have hg1_0 := hg1.cell 0 rfl
      have hg1_1 := hg1.cell 1 rfl
      have hh0_0 := hh0.cell 0 rfl
      have hh0_1 := hh0.cell 1 rfl
      have hh1_0 := hh1.cell 0 rfl
      have hh1_1 := hh1.cell 1 rfl
      go_wp2_with fail
      refine (heldRun_any r0 _ _ _ 1 _ (by omega) (by omega) (by omega) (OwnR.recs cItem_len g9_R0)).mono ?_
      rintro e w25 ⟨rfl, hs25⟩
      clear har_0 har_1 hab_0 hab_1 hw0_0 hw0_1 hw1_0 hw1_1 hg0_0 hg0_1 hg1_0 hg1_1 hh0_0 hh0_1 hh1_0 hh1_1
      replace har := BoxAt.same har hs25
      replace hab := BoxAt.same hab hs25
      replace w_R0 := OwnR.same w_R0 hs25
      replace w_K1 := OwnI.same w_K1 hs25
      replace w_C1 := OwnI.same w_C1 hs25
      replace hw0 := BoxAt.same hw0 hs25
      replace hw1 := BoxAt.same hw1 hs25
      replace g9_R0 := OwnR.same g9_R0 hs25
      replace g9_K1 := OwnI.same g9_K1 hs25
      replace g9_C1 := OwnI.same g9_C1 hs25
      replace hg0 := BoxAt.same hg0 hs25
      replace hg1 := BoxAt.same hg1 hs25
      replace h_R0 := OwnR.same h_R0 hs25
      replace h_K1 := OwnI.same h_K1 hs25
      replace h_C1 := OwnI.same h_C1 hs25
      replace hh0 := BoxAt.same hh0 hs25
      replace hh1 := BoxAt.same hh1 hs25
      have n25 := Same.size hs25
      have S25 : Same w w25 := Same.trans S24 hs25
      clear hs25 S24
      have har_0 := har.cell 0 rfl
      have har_1 := har.cell 1 rfl
      have hab_0 := hab.cell 0 rfl
      have hab_1 := hab.cell 1 rfl
      have hw0_0 := hw0.cell 0 rfl
      have hw0_1 := hw0.cell 1 rfl
      have hw1_0 := hw1.cell 0 rfl
      have hw1_1 := hw1.cell 1 rfl
      have hg0_0 := hg0.cell 0 rfl
      have hg0_1 := hg0.cell 1 rfl
      have hg1_0 := hg1.cell 0 rfl
      have hg1_1 := hg1.cell 1 rfl
      have hh0_0 := hh0.cell 0 rfl
      have hh0_1 := hh0.cell 1 rfl
      have hh1_0 := hh1.cell 0 rfl
      have hh1_1 := hh1.cell 1 rfl
      go_wp2_with fail
      refine (heldBank_any _ _ _ _ _ _ (1 + 3 * (R0.length : Int)) _ (by omega) (by omega) (by omega) (by omega) (OwnI.ints g9_K1) (OwnI.ints g9_C1)).mono ?_
      rintro e w26 ⟨rfl, hs26⟩
      clear har_0 har_1 hab_0 hab_1 hw0_0 hw0_1 hw1_0 hw1_1 hg0_0 hg0_1 hg1_0 hg1_1 hh0_0 hh0_1 hh1_0 hh1_1
      replace har := BoxAt.same har hs26
      replace hab := BoxAt.same hab hs26
      replace w_R0 := OwnR.same w_R0 hs26
      replace w_K1 := OwnI.same w_K1 hs26
      replace w_C1 := OwnI.same w_C1 hs26
      replace hw0 := BoxAt.same hw0 hs26
      replace hw1 := BoxAt.same hw1 hs26
      replace g9_R0 := OwnR.same g9_R0 hs26
      replace g9_K1 := OwnI.same g9_K1 hs26
      replace g9_C1 := OwnI.same g9_C1 hs26
      replace hg0 := BoxAt.same hg0 hs26
      replace hg1 := BoxAt.same hg1 hs26
      replace h_R0 := OwnR.same h_R0 hs26
      replace h_K1 := OwnI.same h_K1 hs26
      replace h_C1 := OwnI.same h_C1 hs26
      replace hh0 := BoxAt.same hh0 hs26
      replace hh1 := BoxAt.same hh1 hs26
      have n26 := Same.size hs26
      have S26 : Same w w26 := Same.trans S25 hs26
      clear hs26 S25
      have har_0 := har.cell 0 rfl
      have har_1 := har.cell 1 rfl
      have hab_0 := hab.cell 0 rfl
      have hab_1 := hab.cell 1 rfl
      have hw0_0 := hw0.cell 0 rfl
      have hw0_1 := hw0.cell 1 rfl
      have hw1_0 := hw1.cell 0 rfl
      have hw1_1 := hw1.cell 1 rfl
      have hg0_0 := hg0.cell 0 rfl
      have hg0_1 := hg0.cell 1 rfl
      have hg1_0 := hg1.cell 0 rfl
      have hg1_1 := hg1.cell 1 rfl
      have hh0_0 := hh0.cell 0 rfl
      have hh0_1 := hh0.cell 1 rfl
      have hh1_0 := hh1.cell 0 rfl
      have hh1_1 := hh1.cell 1 rfl
      go_wp2_with fail
      go_ret
      exact ⟨rfl, S26⟩
    · go_enter Try.func15, Try.ntmps15
      go_wp2_with fail
      have har : BoxAt ((w.alloc (.cells #[.int .i64 r0, .slice Ar1 r1.length cr1] 49)).alloc (.cells #[.slice Ab0 b0.length cb0, .slice Ab1 b1.length cb1] 42)) (w.heap.size) 49 [.int .i64 r0, .slice Ar1 r1.length cr1] := by simpa using (BoxAt.alloc (BoxAt.new w 49 [.int .i64 r0, .slice Ar1 r1.length cr1]) (.cells #[.slice Ab0 b0.length cb0, .slice Ab1 b1.length cb1] 42))
      have hab : BoxAt ((w.alloc (.cells #[.int .i64 r0, .slice Ar1 r1.length cr1] 49)).alloc (.cells #[.slice Ab0 b0.length cb0, .slice Ab1 b1.length cb1] 42)) (w.heap.size + 1) 42 [.slice Ab0 b0.length cb0, .slice Ab1 b1.length cb1] := by simpa using (BoxAt.new (w.alloc (.cells #[.int .i64 r0, .slice Ar1 r1.length cr1] 49)) 42 [.slice Ab0 b0.length cb0, .slice Ab1 b1.length cb1])
      have hs0 := (Same.alloc (Same.alloc (Same.refl w) (.cells #[.int .i64 r0, .slice Ar1 r1.length cr1] 49)) (.cells #[.slice Ab0 b0.length cb0, .slice Ab1 b1.length cb1] 42))
      have m0 : w.heap.size + 2 ≤ ((w.alloc (.cells #[.int .i64 r0, .slice Ar1 r1.length cr1] 49)).alloc (.cells #[.slice Ab0 b0.length cb0, .slice Ab1 b1.length cb1] 42)).heap.size := by simp
      generalize ((w.alloc (.cells #[.int .i64 r0, .slice Ar1 r1.length cr1] 49)).alloc (.cells #[.slice Ab0 b0.length cb0, .slice Ab1 b1.length cb1] 42)) = w0 at *
      have n0 := Same.size hs0
      have S0 : Same w w0 := Same.trans (Same.refl w) hs0
      clear hs0
      refine (szRun_any r0 Ar1 r1.length cr1 1048576 _ hzr1 (by omega) (by omega)).mono ?_
      rintro e w1 ⟨rfl, hs1⟩
      replace har := BoxAt.same har hs1
      replace hab := BoxAt.same hab hs1
      have n1 := Same.size hs1
      have S1 : Same w w1 := Same.trans S0 hs1
      clear hs1 S0
      rw [if_pos hl0]
      have har_0 := har.cell 0 rfl
      have har_1 := har.cell 1 rfl
      have hab_0 := hab.cell 0 rfl
      have hab_1 := hab.cell 1 rfl
      go_wp2_with fail
      refine (szBank_any Ab0 b0.length cb0 Ab1 b1.length cb1 (1048576 - (r1.length : Int)) _ hzb0 hzb1 (by omega) (by omega)).mono ?_
      rintro e w2 ⟨rfl, hs2⟩
      clear har_0 har_1 hab_0 hab_1
      replace har := BoxAt.same har hs2
      replace hab := BoxAt.same hab hs2
      have n2 := Same.size hs2
      have S2 : Same w w2 := Same.trans S1 hs2
      clear hs2 S1
      rw [if_neg (show ¬ (b0.length : Int) + (b1.length : Int) ≤ 1048576 - (r1.length : Int) by omega)]
      go_wp2
      go_ret
      exact ⟨rfl, S2⟩
  · go_enter Try.func15, Try.ntmps15
    go_wp2_with fail
    have har : BoxAt ((w.alloc (.cells #[.int .i64 r0, .slice Ar1 r1.length cr1] 49)).alloc (.cells #[.slice Ab0 b0.length cb0, .slice Ab1 b1.length cb1] 42)) (w.heap.size) 49 [.int .i64 r0, .slice Ar1 r1.length cr1] := by simpa using (BoxAt.alloc (BoxAt.new w 49 [.int .i64 r0, .slice Ar1 r1.length cr1]) (.cells #[.slice Ab0 b0.length cb0, .slice Ab1 b1.length cb1] 42))
    have hab : BoxAt ((w.alloc (.cells #[.int .i64 r0, .slice Ar1 r1.length cr1] 49)).alloc (.cells #[.slice Ab0 b0.length cb0, .slice Ab1 b1.length cb1] 42)) (w.heap.size + 1) 42 [.slice Ab0 b0.length cb0, .slice Ab1 b1.length cb1] := by simpa using (BoxAt.new (w.alloc (.cells #[.int .i64 r0, .slice Ar1 r1.length cr1] 49)) 42 [.slice Ab0 b0.length cb0, .slice Ab1 b1.length cb1])
    have hs0 := (Same.alloc (Same.alloc (Same.refl w) (.cells #[.int .i64 r0, .slice Ar1 r1.length cr1] 49)) (.cells #[.slice Ab0 b0.length cb0, .slice Ab1 b1.length cb1] 42))
    have m0 : w.heap.size + 2 ≤ ((w.alloc (.cells #[.int .i64 r0, .slice Ar1 r1.length cr1] 49)).alloc (.cells #[.slice Ab0 b0.length cb0, .slice Ab1 b1.length cb1] 42)).heap.size := by simp
    generalize ((w.alloc (.cells #[.int .i64 r0, .slice Ar1 r1.length cr1] 49)).alloc (.cells #[.slice Ab0 b0.length cb0, .slice Ab1 b1.length cb1] 42)) = w0 at *
    have n0 := Same.size hs0
    have S0 : Same w w0 := Same.trans (Same.refl w) hs0
    clear hs0
    refine (szRun_any r0 Ar1 r1.length cr1 1048576 _ hzr1 (by omega) (by omega)).mono ?_
    rintro e w1 ⟨rfl, hs1⟩
    replace har := BoxAt.same har hs1
    replace hab := BoxAt.same hab hs1
    have n1 := Same.size hs1
    have S1 : Same w w1 := Same.trans S0 hs1
    clear hs1 S0
    rw [if_neg (show ¬ (r1.length : Int) ≤ 1048576 by omega)]
    go_wp2
    go_ret
    exact ⟨rfl, S1⟩
end Go.Proofs.Ytccgbilgfnoheaa
