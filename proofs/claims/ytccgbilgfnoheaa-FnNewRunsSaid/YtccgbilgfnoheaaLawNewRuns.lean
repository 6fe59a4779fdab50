/-
  FnNewRuns: for every list of bytes a run has one open item for each member, and its payments are its amounts. No condition.
-/
import Derived.Test.YtccgbilgfnoheaaDraw
import Derived.Test.YtccgbilgfnoheaaPlainPay
import Derived.Test.YtccgbilgfnoheaaFinishI
import Derived.Test.YtccgbilgfnoheaaAcceptI
namespace Go.Proofs.Ytccgbilgfnoheaa
open Go.RowKit
set_option linter.unusedVariables false
set_option linter.unnecessarySimpa false

theorem sumTo_len (l : List Int) : sumTo l l.length = l.sum := by rw [sumTo_sum, List.take_length]

set_option maxRecDepth 100000 in
set_option maxHeartbeats 4000000 in
theorem lawNewRuns (A : Option Addr) (n c : Nat) (w : World) (hn : n ≤ 9223372036854775807) (hA : BytesAt w w.heap.size A n) :
    Calls Try.prog 7 #[.slice A n c] w fun e w' => e = .returned (.bool true) ∧ Same w w' := by
  by_cases hbig : n ≤ 1048576
  · go_enter Try.func7, Try.ntmps7
    go_wp2_with fail
    refine (big_no A n c _ hbig).mono ?_
    rintro e w0 ⟨rfl, rfl⟩
    go_wp2_with fail
    refine (drawPlaces_any A n c _ hbig hA).mono ?_
    rintro e w2 ⟨ps, D, g0, rfl, hpl, ho2, hs2⟩
    obtain ⟨a, ha, ha0, ha1⟩ := hpl.get (k := 0) (by omega)
    obtain ⟨b, hb, hb0, hb1⟩ := hpl.get (k := 9) (by omega)
    obtain ⟨h, rfl, _⟩ := ho2.at_ ha
    have ca := ho2.cell ha
    have cb := ho2.cell hb
    have hgl := World.block_lt_of_cell? w2 _ ca
    have hl12 : (12 : Int) ≤ (ps.length : Int) := by have := hpl.1; omega
    have HPL := Lib.hid hpl
    have hI := ho2.ints
    have HI := Lib.hid (fun (k : Nat) (x : Int) (hx : ps[k]? = some x) => ho2.cell hx)
    clear ha hb hpl ho2
    obtain ⟨N, hN⟩ : ∃ N : Nat, (N : Int) = a % 8 := ⟨(a % 8).toNat, by omega⟩
    have hN7 : N ≤ 7 := by omega
    obtain ⟨m, hm⟩ : ∃ m, m = b % 100 := ⟨_, rfl⟩
    have hm0 : 0 ≤ m ∧ m ≤ 99 := by omega
    have HM := Lib.hid hm
    have HNN := Lib.hid hN
    clear hm hN
    go_wp2
    rw [← HNN.out]
    have hal1 := (Same.refl w2).alloc (.cells #[] 3)
    have o5 := ((OwnI.empty w2 (Nat.le_refl _)).alloc (.cells #[] 3))
    have o6 : OwnI ((w2.alloc (.cells #[] 3)).alloc (.cells #[] 3)) w2.heap.size (.slice (some ⟨w2.heap.size + 1, 0, none⟩) 0 0) [] := by
      have h6 := OwnI.empty (w2.alloc (.cells #[] 3)) (base := w2.heap.size) (by simp)
      rw [World.size_alloc] at h6
      exact h6
    have S0 := hal1.alloc (.cells #[] 3)
    go_loopw [5, 6, 7, 8] (fun t5 t6 t7 t8 wr => ∃ k : Nat, k ≤ N ∧ t8 = .int .i64 k ∧ t7 = .int .i64 (cenL ps k).sum ∧ OwnI wr w2.heap.size t5 (memL ps k) ∧ OwnI wr w2.heap.size t6 (cenL ps k) ∧ Sep t5 t6 ∧ Same w2 wr) (fun _ _ _ t8 _ => N - (intOf t8).toNat)
    case atStart => exact ⟨0, Nat.zero_le _, rfl, rfl, o5, o6, fun g h1 h2 => by simp [Value.ownBlock] at h1 h2; omega, S0⟩
    case round =>
      obtain ⟨k, hk, rfl, rfl, ho5, ho6, sp, S1⟩ := hrel
      clear o5 o6 S0 hal1
      obtain ⟨A5, c5, rfl⟩ := ho5.form
      obtain ⟨A6, c6, rfl⟩ := ho6.form
      have hs0 : 0 ≤ (cenL ps k).sum ∧ (cenL ps k).sum ≤ 9999 * (k : Int) := by
        have := sum_bound (l := cenL ps k) (b := 9999) (fun x hx => by
          obtain ⟨i, hi, rfl⟩ := List.mem_iff_getElem.1 hx
          rw [cenL_len] at hi
          obtain ⟨y, hy, h0, h1⟩ := HPL.out.get (k := 1 + i) (by omega)
          simp [cenL, hy, h0, h1])
        rw [cenL_len] at this; exact this
      by_cases hlt : k < N
      · obtain ⟨x, hx, hx0, hx1⟩ := HPL.out.get (k := 1 + k) (by omega)
        have hx' : ps[k + 1]? = some x := by rw [Nat.add_comm]; exact hx
        have cx := HI.out (1 + k) x hx
        obtain ⟨L5, hL5⟩ : ∃ L, L = memL ps (k + 1) := ⟨_, rfl⟩
        obtain ⟨L6, hL6⟩ : ∃ L, L = cenL ps (k + 1) := ⟨_, rfl⟩
        have e5 := memL_succ hx'
        have e6 := cenL_succ hx'
        have es : L6.sum = (cenL ps k).sum + x := by rw [hL6, e6, sum_push]
        rw [← hL5] at e5
        rw [← hL6] at e6
        have hl5 := memL_len ps k
        have hl6 := cenL_len ps k
        obtain ⟨M5, hM5⟩ : ∃ M, M = memL ps k := ⟨_, rfl⟩
        obtain ⟨M6, hM6⟩ : ∃ M, M = cenL ps k := ⟨_, rfl⟩
        rw [← hM5] at e5 hl5 ho5 sp ⊢
        rw [← hM6] at e6 hl6 ho6 sp es hs0 ⊢
        obtain ⟨s, hs⟩ : ∃ s, s = M6.sum := ⟨_, rfl⟩
        rw [← hs] at hs0 es ⊢
        have HL5 := Lib.hid hL5
        have HL6 := Lib.hid hL6
        have E5 := Lib.hid e5
        have E6 := Lib.hid e6
        have ES := Lib.hid es
        have b5 : M5.length ≤ 7 := by omega
        have b6 : M6.length ≤ 7 := by omega
        have HX := Lib.hid hx'
        clear hL5 hL6 e5 e6 es hx hx' hl5 hl6 hM5 hM6 hs
        have q0 : (0 : Int) ≤ 1 + (k : Int) := by omega
        have q1 : 1 + (k : Int) < (ps.length : Int) := by omega
        have q2 : (k : Int) < (N : Int) := by omega
        have cw := (S1.cell (p := ⟨h, 1 + k, none⟩) hgl).trans cx
        obtain ⟨y, hy⟩ : ∃ y, y = 1 + 100 * (k : Int) + x % 100 := ⟨_, rfl⟩
        have HY := Lib.hid hy
        clear cx hy
        have n1 := S1.size
        go_upto_region 12 with (at_builtin; refine wpList_of rfl fun _ hK => wp_oneI _ (.tmp 34) (.tmp 45) rfl w2.heap.size _ M5 rfl (ho5.alloc _) wr.heap.size 1 (1 + 100 * (k : Int) + x % 100) rfl (by simp) (by omega) (by simp) (by simp; omega) (fun v' w3 ho3 hup hfr => hK _ _ ?_); rw [← E5.out] at ho3)
        have al := (Same.refl wr).alloc (.cells #[.int .i64 (1 + 100 * (k : Int) + x % 100)] 3)
        obtain ⟨A7, c7, rfl⟩ := ho3.form
        have ho6' := grown_owns hup (ho6.same al) sp
        have sp' := Sep.from_ sp hfr (ho6.same al)
        have S3 := grown_same (S1.trans al) hup (fun g hg => (owns_new ho5 g hg).1)
        have cw3 := (S3.cell (p := ⟨h, 1 + k, none⟩) hgl).trans (HI.out (1 + k) x (by have := HX.out; rw [Nat.add_comm]; exact this))
        clear cw hup hfr ho5 ho6 sp al S1
        have n3 := S3.size
        go_upto_region 13 with (at_builtin; refine wpList_of rfl fun _ hK => wp_oneI _ (.tmp 47) (.tmp 53) rfl w2.heap.size _ M6 rfl (OwnI.alloc ho6' _) w3.heap.size 1 x rfl (by simp) (by omega) (by simp) (by simp; omega) (fun v' w4 ho4 hup4 hfr4 => hK _ _ ?_); rw [← E6.out] at ho4)
        have al := (Same.refl w3).alloc (.cells #[.int .i64 x] 3)
        obtain ⟨A8, c8, rfl⟩ := ho4.form
        have ho5' := grown_owns hup4 (ho3.same al) sp'.symm
        have sp4 := (Sep.from_ sp'.symm hfr4 (ho3.same al)).symm
        have S4 := grown_same (S3.trans al) hup4 (fun g hg => (owns_new ho6' g hg).1)
        have cw4 := (S4.cell (p := ⟨h, 1 + k, none⟩) hgl).trans (HI.out (1 + k) x (by have := HX.out; rw [Nat.add_comm]; exact this))
        clear cw3 hup4 hfr4 ho3 ho6' sp' al S3
        go_wp2
        go_roundw
        case rel => exact ⟨k + 1, hlt, by go_num, by rw [← HL6.out, ES.out], by rw [← HL5.out]; exact ho5', by rw [← HL6.out]; exact ho4, sp4, S4⟩
        case measure => simp [intOf]; omega
      · have hkN : k = N := by omega
        subst hkN
        have hnew := newOk_yes HPL.out hN7 hm0
        have hruns := newRuns HPL.out hN7 hm0
        have hzl := zipI_len (show (memL ps k).length = (cenL ps k).length by rw [memL_len, cenL_len])
        rw [memL_len] at hzl
        have hn1 := new_yes hnew
        have hl5 := memL_len ps k
        have hl6 := cenL_len ps k
        obtain ⟨Z, hZ⟩ : ∃ Z, Z = zipI (memL ps k) (cenL ps k) := ⟨_, rfl⟩
        rw [← hZ] at hruns hzl hn1
        obtain ⟨s, hs⟩ : ∃ s, s = (cenL ps k).sum := ⟨_, rfl⟩
        rw [← hs] at hruns hs0 ⊢
        obtain ⟨FK, hFK⟩ : ∃ F, F = finK m Z [] [] := ⟨_, rfl⟩
        obtain ⟨FC, hFC⟩ : ∃ F, F = finC m Z [] [] := ⟨_, rfl⟩
        rw [← hFK, ← hFC] at hruns
        have HNEW := Lib.hid hnew
        have HN1 := Lib.hid hn1
        have HRU := Lib.hid hruns
        have HZL := Lib.hid hzl
        have hzl7 : Z.length ≤ 7 := by omega
        have HFK := Lib.hid hFK
        have HFC := Lib.hid hFC
        have b5 : (memL ps k).length ≤ 7 := by omega
        have b6 : (cenL ps k).length ≤ 7 := by omega
        have hlb := bankOk_iff.1 hruns.2.2
        have hlK : FK.length ≤ 2000 := hlb.2.1
        have hlC : FC.length ≤ 2000 := by omega
        have HLB := Lib.hid hlb
        clear hnew hruns hn1 hzl hl5 hl6 hZ hs hFK hFC hlb
        have cw := (S1.cell (p := ⟨h, 9, none⟩) hgl).trans cb
        go_wp2_with fail
        refine (iRunNew_any (b % 100) A5 c5 (memL ps k) A6 c6 (cenL ps k) _ (by omega) ho5.ints (by omega) ho6.ints).mono ?_
        rw [← HM.out]
        rintro e w5 ⟨A9, c9, rfl, ho9, hs5⟩
        rw [HNEW.out]
        rw [HN1.out.2] at ho9
        rw [HN1.out.1, HN1.out.2]
        have S5 := S1.trans hs5
        clear cw ho5 ho6 sp hs5 S1
        have hb9 := BoxAt.new w5 26 [.int .i64 m, .slice A9 Z.length c9]
        have al9 := (Same.refl w5).alloc (.cells #[.int .i64 m, .slice A9 Z.length c9] 26)
        have ho9' := ho9.same al9
        have z0 := hb9.cell 0 rfl
        have z1 := hb9.cell 1 rfl
        go_wp2_with fail
        generalize w5.alloc (.cells #[.int .i64 m, .slice A9 Z.length c9] 26) = w6 at *
        refine (iFinish_any m A9 c9 Z none 0 [] none 0 [] _ (by omega) (OwnR.cap ho9') (OwnR.recs cItem_len ho9') (by simp) (.inl rfl) (by intro x hx; cases hx) (by simp) (.inl rfl)).mono ?_
        rw [← HFK.out, ← HFC.out]
        rintro e w7 ⟨A10, c10, B10, d10, D10, f10, rfl, o1, o2, o3, _, _, _, hs7⟩
        have hlr : (finL m Z [] []).length ≤ 7 := by rw [finL_len]; exact hzl7
        obtain ⟨FL, hFL⟩ : ∃ F, F = finL m Z [] [] := ⟨_, rfl⟩
        rw [← hFL] at o1 hlr ⊢
        clear hFL z0 z1
        have al7 := ((Same.refl w7).alloc (.cells #[.int .i64 m, .slice A10 FL.length c10] 26)).alloc (.cells #[.slice B10 FK.length d10, .slice D10 FC.length f10] 29)
        have hb12 : BoxAt ((w7.alloc (.cells #[.int .i64 m, .slice A10 FL.length c10] 26)).alloc (.cells #[.slice B10 FK.length d10, .slice D10 FC.length f10] 29)) (w7.heap.size + 1) 29 [.slice B10 FK.length d10, .slice D10 FC.length f10] := by
          have := BoxAt.new (w7.alloc (.cells #[.int .i64 m, .slice A10 FL.length c10] 26)) 29 [.slice B10 FK.length d10, .slice D10 FC.length f10]
          rw [World.size_alloc] at this
          exact this
        have iK := (OwnI.ints o2).same al7
        have iC := (OwnI.ints o3).same al7
        replace hb9 := (hb9.same hs7).same al7
        have S7 := ((S5.trans al9).trans hs7).trans al7
        go_wp2
        generalize (w7.alloc (.cells #[.int .i64 m, .slice A10 FL.length c10] 26)).alloc (.cells #[.slice B10 FK.length d10, .slice D10 FC.length f10] 29) = w8 at *
        generalize w7.heap.size + 1 = g12 at *
        clear o1 o2 o3 hs7 al7 al9 ho9 ho9'
        have b1 := hb12.cell 1 rfl
        go_loop [13, 14] (fun t13 t14 => ∃ j : Nat, j ≤ FC.length ∧ t14 = .int .i64 j ∧ t13 = .int .i64 (sumTo FC j)) (fun _ t14 => FC.length - (intOf t14).toNat)
        case atStart => exact ⟨0, Nat.zero_le _, rfl, rfl⟩
        case round =>
          obtain ⟨j, hj, rfl, rfl⟩ := hrel
          have hsj : 0 ≤ sumTo FC j ∧ sumTo FC j ≤ 10000000 * (j : Int) := by
            rw [sumTo_sum]
            have hb := sum_bound (l := FC.take j) (b := 10000000) (fun x hx => by
              obtain ⟨i, hi, rfl⟩ := List.mem_iff_getElem.1 hx
              have hi2 : i < FC.length := by simp at hi; omega
              rw [List.getElem_take]
              exact (HLB.out.2.2 i (FK[i]'(by have := HLB.out.1; omega)) FC[i] (List.getElem?_eq_getElem _) (List.getElem?_eq_getElem _)).2.1)
            rw [List.length_take, Nat.min_eq_left hj] at hb
            exact hb
          by_cases hlt2 : j < FC.length
          · obtain ⟨b', off', x, rfl, cx, HX, hbl⟩ := iC.at_ hlt2
            have hx := (HLB.out.2.2 j (FK[j]'(by have := HLB.out.1; omega)) x (List.getElem?_eq_getElem _) HX.out).2.1
            have q3 : (0 : Int) ≤ (j : Int) := by omega
            have q4 : (j : Int) < (FC.length : Int) := by omega
            have HSU := Lib.hid (sumTo_succ HX.out)
            go_wp2
            go_round
            case rel => exact ⟨j + 1, hlt2, by go_num, by rw [HSU.out]⟩
            case measure => simp [intOf]; omega
          · have hjl : j = FC.length := by omega
            subst hjl
            have HS := Lib.hid (show sumTo FC FC.length = s by rw [sumTo_len]; exact HRU.out.1)
            rw [HS.out] at hsj ⊢
            have b0 := hb12.cell 0 rfl
            have hneg : ¬ (FC.length : Int) < (FC.length : Int) := by omega
            go_wp2_with fail
            refine (iAccept_any B10 d10 FK D10 f10 FC 3599999 1 _ (by omega) (wide_ok HRU.out.2.2) (by intro y hy; simp at hy; subst hy; exact WalkArith.wf_i64 (by omega)) iK (by omega) iC).mono ?_
            rw [(acc_yes HRU.out.2.1).1, (acc_yes HRU.out.2.1).2, HRU.out.2.1]
            rintro e w10 ⟨A11, c11, B11, d11, rfl, o1, o2, _, hs10⟩
            obtain ⟨K2, hK2⟩ : ∃ K2, K2 = FK ++ [3599999] := ⟨_, rfl⟩
            obtain ⟨C2, hC2⟩ : ∃ C2, C2 = FC ++ [1] := ⟨_, rfl⟩
            have hk2 : K2.length ≤ 2001 := by rw [hK2]; simp; omega
            have hc2 : C2.length ≤ 2001 := by rw [hC2]; simp; omega
            have hw2 : Wide K2 := by
              rw [hK2]; intro y hy
              rcases List.mem_append.1 hy with hy | hy
              · exact wide_ok HRU.out.2.2 y hy
              · simp at hy; subst hy; exact WalkArith.wf_i64 (by omega)
            have hno : accOk K2 C2 3599999 1 = false := by rw [accOk, hK2, hasK_push]; simp
            rw [← hK2] at o1
            rw [← hC2] at o2
            rw [← hK2, ← hC2]
            have HW2 := Lib.hid hw2
            have HNO := Lib.hid hno
            clear hK2 hC2 hw2 hno b0 b1
            have al10 := (Same.refl w10).alloc (.cells #[.slice A11 K2.length c11, .slice B11 C2.length d11] 29)
            have hb15 := BoxAt.new w10 29 [.slice A11 K2.length c11, .slice B11 C2.length d11]
            have iK2 := (OwnI.ints o1).same al10
            have iC2 := (OwnI.ints o2).same al10
            replace hb9 := (hb9.same hs10).same al10
            have S10 := (S7.trans hs10).trans al10
            go_wp2_with fail
            generalize w10.alloc (.cells #[.slice A11 K2.length c11, .slice B11 C2.length d11] 29) = w11 at *
            refine (iAccept_any A11 c11 K2 B11 d11 C2 3599999 1 _ (by omega) HW2.out (by intro y hy; simp at hy; subst hy; exact WalkArith.wf_i64 (by omega)) iK2 (by omega) iC2).mono ?_
            rw [(acc_no HNO.out).1, (acc_no HNO.out).2, HNO.out]
            rintro e w12 ⟨A13, c13, B13, d13, rfl, o3, o4, _, hs12⟩
            have al12 := (Same.refl w12).alloc (.cells #[.slice A13 K2.length c13, .slice B13 C2.length d13] 29)
            replace hb9 := (hb9.same hs12).same al12
            have y1 := hb9.cell 1 rfl
            have e1 : ((Z.length : Int) == (k : Int)) = true := by rw [HZL.out]; simp
            have e2 : (s == s) = true := by simp
            clear hb15 hb12 iK iC
            go_wp2
            go_ret
            exact ⟨by first | rfl | (simp; done), (((hs2.trans S10).trans hs12).trans al12)⟩
  · go_enter Try.func7, Try.ntmps7
    go_wp2_with (go_at_call 16; refine (big_yes A n c _ hn hbig).mono ?_; rintro e w' ⟨rfl, rfl⟩)
    go_ret
    exact ⟨rfl, Same.refl _⟩
end Go.Proofs.Ytccgbilgfnoheaa
