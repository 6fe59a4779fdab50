/-
  FnReturned: for every list of bytes returned payments are taken out of the bank with their amounts. No condition.
-/
import Derived.Test.YtccgbilgfnoheaaDrawPay
import Derived.Test.YtccgbilgfnoheaaPlainRet
import Derived.Test.YtccgbilgfnoheaaFinishI
namespace Go.Proofs.Ytccgbilgfnoheaa
open Go.RowKit
set_option linter.unusedVariables false
set_option linter.unnecessarySimpa false

theorem sum_len (l : List Int) : sumTo l l.length = l.sum := by rw [sumTo_sum, List.take_length]
theorem sumTo_bank {K C : List Int} (h : bankOk K C = true) {j : Nat} (hj : j ≤ C.length) : 0 ≤ sumTo C j ∧ sumTo C j ≤ 10000000 * (j : Int) := by
  obtain ⟨a, b, c⟩ := bankOk_iff.1 h
  rw [sumTo_sum]
  have hb := sum_bound (l := C.take j) (b := 10000000) (fun x hx => by
    obtain ⟨i, hi, rfl⟩ := List.mem_iff_getElem.1 hx
    have hi2 : i < C.length := by simp at hi; omega
    rw [List.getElem_take]
    exact (c i (K[i]'(by omega)) C[i] (List.getElem?_eq_getElem _) (List.getElem?_eq_getElem _)).2.1)
  rw [List.length_take, Nat.min_eq_left hj] at hb
  exact hb

set_option maxRecDepth 100000 in
set_option maxHeartbeats 4000000 in
theorem lawReturned (A : Option Addr) (n c : Nat) (w : World) (hn : n ≤ 9223372036854775807) (hA : BytesAt w w.heap.size A n) :
    Calls Try.prog 10 #[.slice A n c] w fun e w' => e = .returned (.bool true) ∧ Same w w' := by
  by_cases hbig : n ≤ 1048576
  · go_enter Try.func10, Try.ntmps10
    go_wp2_with fail
    refine (big_no A n c _ hbig).mono ?_
    rintro e w0 ⟨rfl, rfl⟩
    go_wp2_with fail
    refine (drawPay_any A n c _ hbig hA).mono ?_
    rintro e w1 ⟨m, L, K, C, A1, c1, B1, d1, D1, f1, rfl, hok, hob, hlL, hlK, oi, ok, oc, hs1⟩
    have HOB := Lib.hid hob
    have hI := bankOk_iff.1 hob
    have hlC : C.length ≤ 8 := by omega
    have HI := Lib.hid hI
    clear hok hob hI
    have al := ((Same.refl w1).alloc (.cells #[.int .i64 m, .slice A1 L.length c1] 26)).alloc (.cells #[.slice B1 K.length d1, .slice D1 C.length f1] 29)
    have hb4 : BoxAt ((w1.alloc (.cells #[.int .i64 m, .slice A1 L.length c1] 26)).alloc (.cells #[.slice B1 K.length d1, .slice D1 C.length f1] 29)) (w1.heap.size + 1) 29 [.slice B1 K.length d1, .slice D1 C.length f1] := by
      have := BoxAt.new (w1.alloc (.cells #[.int .i64 m, .slice A1 L.length c1] 26)) 29 [.slice B1 K.length d1, .slice D1 C.length f1]
      rw [World.size_alloc] at this
      exact this
    have iK := (OwnI.ints ok).same al
    have iC := (OwnI.ints oc).same al
    have S2 := hs1.trans al
    clear oi ok oc
    go_wp2_with fail
    generalize (w1.alloc (.cells #[.int .i64 m, .slice A1 L.length c1] 26)).alloc (.cells #[.slice B1 K.length d1, .slice D1 C.length f1] 29) = w2 at *
    generalize w1.heap.size + 1 = g4 at *
    refine (drawPlaces_any A n c _ hbig (hA.keep' S2)).mono ?_
    rintro e w3 ⟨ps, D, g0, rfl, hpl, ho2, hs3⟩
    replace iK := iK.same hs3
    replace iC := iC.same hs3
    replace hb4 := hb4.same hs3
    obtain ⟨a, ha, ha0, ha1⟩ := hpl.get (k := 0) (by omega)
    obtain ⟨h, rfl, _⟩ := ho2.at_ ha
    have hgl := World.block_lt_of_cell? w3 _ (ho2.cell ha)
    have hl12 : (12 : Int) ≤ (ps.length : Int) := by have := hpl.1; omega
    have HPL := Lib.hid hpl
    have HPC := Lib.hid (fun (k : Nat) (x : Int) (hx : ps[k]? = some x) => ho2.cell hx)
    have S3 := S2.trans hs3
    have al6 := (Same.refl w3).alloc (.cells #[] 3)
    have o6 := OwnI.empty w3 (Nat.le_refl _)
    obtain ⟨s, hs⟩ : ∃ s : Nat → Bool, s = fun i => decide (ps.getD (i % 12) 0 % 2 = 0) := ⟨_, rfl⟩
    have HS := Lib.hid hs
    have b4 := (hb4.same al6).cell 0 rfl
    clear ha hpl ho2 hs1 hs3 al S2 hs
    go_wp2
    clear b4
    go_loopw [6, 7] (fun t6 t7 wr => ∃ k : Nat, k ≤ K.length ∧ t7 = .int .i64 k ∧ OwnI wr w3.heap.size t6 (selL K s k) ∧ Same w3 wr) (fun _ t7 _ => K.length - (intOf t7).toNat)
    case atStart => exact ⟨0, Nat.zero_le _, rfl, o6, al6⟩
    case round =>
      obtain ⟨k, hk, rfl, ho6, S4⟩ := hrel
      clear o6 al6
      obtain ⟨A6, c6, rfl⟩ := ho6.form
      have b4 := (hb4.same S4).cell 0 rfl
      have hsl := selL_len K s k
      by_cases hlt : k < K.length
      · obtain ⟨x, hx, hx0, hx1⟩ := HPL.out.get (k := k % 12) (by omega)
        have cx := (S4.cell (p := ⟨h, k % 12, none⟩) hgl).trans (HPC.out (k % 12) x hx)
        obtain ⟨b', off', y, rfl, cy, HY, hbl⟩ := (iK.same S4).at_ hlt
        have q0 : (0 : Int) ≤ (k : Int) % 12 := by omega
        have q1 : (k : Int) % 12 < (ps.length : Int) := by omega
        have q2 : (0 : Int) ≤ (k : Int) := by omega
        have q3 : (k : Int) < (K.length : Int) := by omega
        have q4 : ((k : Int) % 12).toNat = k % 12 := by omega
        have hsk : s k = decide (x % 2 = 0) := by rw [HS.out]; show decide (ps.getD (k % 12) 0 % 2 = 0) = _; rw [List.getD, hx]; rfl
        by_cases hev : x % 2 = 0
        · have e1 : (x % 2 == 0) = true := by simp [hev]
          have hsy : s k = true := by rw [hsk]; simp [hev]
          have hsel := selL_yes HY.out hsy
          obtain ⟨M, hM⟩ : ∃ M, M = selL K s (k + 1) := ⟨_, rfl⟩
          rw [← hM] at hsel
          obtain ⟨M0, hM0⟩ : ∃ M, M = selL K s k := ⟨_, rfl⟩
          rw [← hM0] at hsel ho6 hsl ⊢
          have HM := Lib.hid hM
          have HE := Lib.hid hsel
          have n4 := S4.size
          have al := (Same.refl wr).alloc (.cells #[.int .i64 y] 3)
          clear hx hsk hev hsy hM hsel hM0
          go_upto_region 8 with (at_builtin; refine wpList_of rfl fun _ hK => wp_oneI _ (.tmp 38) (.tmp 44) rfl w3.heap.size (.slice A6 M0.length c6) M0 rfl (ho6.alloc _) wr.heap.size 1 y rfl (by simp) (by omega) (by simp) (by simp; omega) (fun v' w5 ho7 hup hfr => hK _ _ ?_); clear hK)
          rw [← HE.out] at ho7
          have S5 := grown_same (S4.trans al) hup (fun g hg => (owns_new ho6 g hg).1)
          clear hup hfr ho6 al cx cy b4
          go_wp2
          go_roundw
          case rel => exact ⟨k + 1, hlt, by go_num, by rw [← HM.out]; exact ho7, S5⟩
          case measure => simp [intOf]; omega
        · have e1 : (x % 2 == 0) = false := by simp [hev]
          have hsy : s k = false := by rw [hsk]; simp [hev]
          have HE := Lib.hid (selL_no (K := K) hsy)
          clear hx hsk hev hsy
          go_wp2
          go_roundw
          case rel => exact ⟨k + 1, hlt, by go_num, by rw [HE.out]; exact ho6, S4⟩
          case measure => simp [intOf]; omega
      · have hkl : k = K.length := by omega
        have b41 := (hb4.same S4).cell 1 rfl
        subst hkl
        obtain ⟨R, hR⟩ : ∃ R, R = selL K s K.length := ⟨_, rfl⟩
        have hal := aft_len HOB.out s _ (Nat.le_refl _)
        have haok := aft_ok R HOB.out _ (Nat.le_refl _)
        have hasum := aft_sum R HI.out.1 _ (Nat.le_refl _)
        rw [← hR] at hal ho6 hsl ⊢
        rw [HI.out.1, List.take_length, ← HI.out.1] at hasum
        have har := aftR_yes (R := R) HOB.out
        obtain ⟨XK, hXK⟩ : ∃ X, X = aftK K R K.length := ⟨_, rfl⟩
        obtain ⟨XC, hXC⟩ : ∃ X, X = aftC K C R K.length := ⟨_, rfl⟩
        obtain ⟨XS, hXS⟩ : ∃ X, X = aftS K C R K.length := ⟨_, rfl⟩
        rw [← hXK] at hal haok har
        rw [← hXC] at haok hasum har
        rw [← hXS] at hasum har
        have hXS0 := aftS_range R HOB.out _ (Nat.le_refl _)
        rw [← hXS] at hXS0
        have hXK0 := aftK_len K R K.length
        rw [← hXK] at hXK0
        have hXC0 := (bankOk_iff.1 haok.1).1
        have hXc : XC.length ≤ 8 := by omega
        have HAL := Lib.hid hal
        have HAO := Lib.hid haok.1
        have HAS := Lib.hid hasum
        have HAR := Lib.hid har
        clear hal haok hasum har hR hXK hXC hXS hXC0
        have hneg : ¬ (K.length : Int) < (K.length : Int) := by omega
        go_wp2_with fail
        refine (iAfter_any B1 d1 K D1 f1 C A6 c6 R _ (by omega) (wide_ok HOB.out) (iK.same S4) (by omega) (iC.same S4) (by omega) ho6.ints).mono ?_
        rw [HAR.out.1, HAR.out.2.1, HAR.out.2.2]
        rintro e w5 ⟨A9, c9, B9, d9, rfl, oX, oY, _, hs5⟩
        have al8 := (Same.refl w5).alloc (.cells #[.slice A9 XK.length c9, .slice B9 XC.length d9] 29)
        have hb8 := BoxAt.new w5 29 [.slice A9 XK.length c9, .slice B9 XC.length d9]
        have iX := (OwnI.ints oX).same al8
        have iY := (OwnI.ints oY).same al8
        have S6 := (S4.trans hs5).trans al8
        clear b4 b41 oX oY ho6
        go_wp2
        generalize w5.alloc (.cells #[.slice A9 XK.length c9, .slice B9 XC.length d9] 29) = w6 at *
        generalize w5.heap.size = g8 at *
        replace hb4 := hb4.same S6
        replace iK := iK.same S6
        replace iC := iC.same S6
        have x0 := hb8.cell 0 rfl
        have x1 := hb8.cell 1 rfl
        have y0 := hb4.cell 0 rfl
        have y1 := hb4.cell 1 rfl
        go_loop [10, 11] (fun t10 t11 => ∃ j : Nat, j ≤ XC.length ∧ t11 = .int .i64 j ∧ t10 = .int .i64 (XS + sumTo XC j)) (fun _ t11 => XC.length - (intOf t11).toNat)
        case atStart => exact ⟨0, Nat.zero_le _, rfl, by simp [sumTo]⟩
        case round =>
          obtain ⟨j, hj, rfl, rfl⟩ := hrel
          have hsj := sumTo_bank HAO.out hj
          by_cases hlt2 : j < XC.length
          · obtain ⟨b', off', y, rfl, cy, HY, hbl⟩ := iY.at_ hlt2
            have hy := sumTo_bank HAO.out (j := j + 1) hlt2
            have q2 : (0 : Int) ≤ (j : Int) := by omega
            have q3 : (j : Int) < (XC.length : Int) := by omega
            rw [sumTo_succ HY.out] at hy
            have HSU := Lib.hid (sumTo_succ HY.out)
            go_wp2
            go_round
            case rel => exact ⟨j + 1, hlt2, by go_num, by rw [HSU.out, Int.add_assoc]⟩
            case measure => simp [intOf]; omega
          · have hjl : j = XC.length := by omega
            subst hjl
            have HT := Lib.hid (show XS + sumTo XC XC.length = C.sum by rw [sum_len]; exact HAS.out)
            rw [HT.out]
            clear hsj hlt2
            go_wp2
            go_loop [12, 13] (fun t12 t13 => ∃ j : Nat, j ≤ C.length ∧ t13 = .int .i64 j ∧ t12 = .int .i64 (sumTo C j)) (fun _ t13 => C.length - (intOf t13).toNat)
            case atStart => exact ⟨0, Nat.zero_le _, rfl, rfl⟩
            case round =>
              obtain ⟨j, hj, rfl, rfl⟩ := hrel
              have hsj := sumTo_bank HOB.out hj
              by_cases hlt2 : j < C.length
              · obtain ⟨b', off', y, rfl, cy, HY, hbl⟩ := iC.at_ hlt2
                have hy := sumTo_bank HOB.out (j := j + 1) hlt2
                have q2 : (0 : Int) ≤ (j : Int) := by omega
                have q3 : (j : Int) < (C.length : Int) := by omega
                rw [sumTo_succ HY.out] at hy
                have HSU := Lib.hid (sumTo_succ HY.out)
                go_wp2
                go_round
                case rel => exact ⟨j + 1, hlt2, by go_num, by rw [HSU.out]⟩
                case measure => simp [intOf]; omega
              · have hjl : j = C.length := by omega
                subst hjl
                have HU := Lib.hid (sum_len C)
                rw [HU.out]
                have e1 : (C.sum == C.sum) = true := by simp
                have hsub : (XK.length : Int) = (K.length : Int) - (R.length : Int) := by have := HAL.out; omega
                have e2 : ((XK.length : Int) == (K.length : Int) - (R.length : Int)) = true := by rw [hsub]; simp
                clear hsj hlt2 hsub
                go_wp2_with fail
                refine (iBankOk_any A9 B9 c9 d9 XK XC _ (by omega) (by omega) (wide_ok HAO.out) iX iY).mono ?_
                rintro e w7 ⟨rfl, hs7⟩
                rw [HAO.out]
                go_wp2
                go_ret
                exact ⟨rfl, (S3.trans S6).trans hs7⟩
  · go_enter Try.func10, Try.ntmps10
    go_wp2_with (go_at_call 16; refine (big_yes A n c _ hn hbig).mono ?_; rintro e w' ⟨rfl, rfl⟩)
    go_ret
    exact ⟨rfl, Same.refl _⟩
end Go.Proofs.Ytccgbilgfnoheaa
