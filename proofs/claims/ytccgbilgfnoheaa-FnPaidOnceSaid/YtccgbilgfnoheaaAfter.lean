/-
  AfterReturns.
-/
import Derived.Test.YtccgbilgfnoheaaPlanSend
import Derived.Test.YtccgbilgfnoheaaAcceptI
import Derived.Deep.RegionLaw
import Derived.Deep.Cut
import Derived.Deep.CutRange
namespace Go.Proofs.Ytccgbilgfnoheaa
open Go.RowKit
set_option linter.unusedVariables false
set_option linter.unnecessarySimpa false

/-- What is left of a bank's first entries, and what came back. -/
def aftK (K R : List Int) (n : Nat) : List Int := (K.take n).filter fun k => !hasK R k
def aftC (K C R : List Int) : Nat → List Int
  | 0 => []
  | i + 1 => if hasK R (K.getD i 0) = true then aftC K C R i else aftC K C R i ++ [C.getD i 0]
def aftS (K C R : List Int) : Nat → Int
  | 0 => 0
  | i + 1 => if hasK R (K.getD i 0) = true then aftS K C R i + C.getD i 0 else aftS K C R i
theorem aftK_yes {K R : List Int} {i : Nat} {x : Int} (hx : K[i]? = some x) (h : hasK R x = true) : aftK K R (i + 1) = aftK K R i := by
  have hi := (List.getElem?_eq_some_iff.1 hx)
  unfold aftK
  rw [List.take_add_one, hx, Option.toList_some, List.filter_append]; simp [h]
theorem aftK_no {K R : List Int} {i : Nat} {x : Int} (hx : K[i]? = some x) (h : hasK R x = false) : aftK K R (i + 1) = aftK K R i ++ [x] := by
  unfold aftK
  rw [List.take_add_one, hx, Option.toList_some, List.filter_append]; simp [h]
theorem aftC_yes {K C R : List Int} {i : Nat} {x : Int} (hx : K[i]? = some x) (h : hasK R x = true) : aftC K C R (i + 1) = aftC K C R i := by rw [aftC, if_pos (by rw [List.getD, hx]; exact h)]
theorem aftC_no {K C R : List Int} {i : Nat} {x y : Int} (hx : K[i]? = some x) (hy : C[i]? = some y) (h : hasK R x = false) : aftC K C R (i + 1) = aftC K C R i ++ [y] := by
  rw [aftC, if_neg (by rw [List.getD, hx]; simpa using h), List.getD, hy]; rfl
theorem aftS_yes {K C R : List Int} {i : Nat} {x y : Int} (hx : K[i]? = some x) (hy : C[i]? = some y) (h : hasK R x = true) : aftS K C R (i + 1) = aftS K C R i + y := by
  rw [aftS, if_pos (by rw [List.getD, hx]; exact h), List.getD, hy]; rfl
theorem aftS_no {K C R : List Int} {i : Nat} {x : Int} (hx : K[i]? = some x) (h : hasK R x = false) : aftS K C R (i + 1) = aftS K C R i := by rw [aftS, if_neg (by rw [List.getD, hx]; simpa using h)]
theorem aftK_len (K R : List Int) (n : Nat) : (aftK K R n).length ≤ n := by
  unfold aftK
  exact Nat.le_trans (List.length_filter_le _ _) (List.length_take_le _ _)
theorem aftC_len (K C R : List Int) : ∀ n, (aftC K C R n).length ≤ n
  | 0 => Nat.le_refl _
  | n + 1 => by
    have := aftC_len K C R n
    rw [aftC]; split
    · omega
    · simp; omega
theorem aftS_range {K C : List Int} (R : List Int) (h : bankOk K C = true) : ∀ n, n ≤ K.length → 0 ≤ aftS K C R n ∧ aftS K C R n ≤ 10000000 * (n : Int)
  | 0, _ => by simp [aftS]
  | n + 1, hn => by
    have ih := aftS_range R h n (by omega)
    obtain ⟨a, b, c⟩ := bankOk_iff.1 h
    have hx : K[n]? = some K[n] := List.getElem?_eq_getElem (by omega)
    have hy : C[n]? = some (C[n]'(by omega)) := List.getElem?_eq_getElem (by omega)
    have := (c n _ _ hx hy).2.1
    cases hk : hasK R K[n]
    · rw [aftS_no hx hk]; omega
    · rw [aftS_yes hx hy hk]; omega
def aftRK (K C R : List Int) : List Int := if bankOk K C = true then aftK K R K.length else K
def aftRC (K C R : List Int) : List Int := if bankOk K C = true then aftC K C R K.length else C
def aftRS (K C R : List Int) : Int := if bankOk K C = true then aftS K C R K.length else 0
theorem aftR_no {K C R : List Int} (h : bankOk K C = false) : aftRK K C R = K ∧ aftRC K C R = C ∧ aftRS K C R = 0 := by simp [aftRK, aftRC, aftRS, h]
theorem aftR_yes {K C R : List Int} (h : bankOk K C = true) : aftRK K C R = aftK K R K.length ∧ aftRC K C R = aftC K C R K.length ∧ aftRS K C R = aftS K C R K.length := by simp [aftRK, aftRC, aftRS, h]
theorem aftRK_len (K C R : List Int) : (aftRK K C R).length ≤ K.length := by
  unfold aftRK; split
  · exact aftK_len _ _ _
  · exact Nat.le_refl _
theorem aftRC_len (K C R : List Int) : (aftRC K C R).length ≤ K.length + C.length := by
  unfold aftRC; split
  · have := aftC_len K C R K.length; omega
  · omega

set_option maxRecDepth 100000 in
set_option maxHeartbeats 4000000 in
theorem iAfter_any (A : Option Addr) (c : Nat) (K : List Int) (B : Option Addr) (d : Nat) (C : List Int) (E : Option Addr) (q : Nat) (R : List Int) (w : World) (hz : K.length ≤ 900000000) (hwK : Wide K) (hA : IntsAt w A K) (hz' : C.length ≤ 900000000) (hB : IntsAt w B C) (hzR : R.length ≤ 9223372036854775807) (hE : IntsAt w E R) :
    Calls Try.prog 45 #[.agg #[.slice A K.length c, .slice B C.length d], .slice E R.length q] w (RetBankX w (aftRK K C R) (aftRC K C R) (.int .i64 (aftRS K C R))) := by
  have HWK := Lib.hid hwK
  clear hwK
  go_enter Try.func45, Try.ntmps45
  go_wp2_with fail
  have h1 : BoxAt ((w.alloc (.cells #[.slice A K.length c, .slice B C.length d] 29)).alloc (.cells #[.slice none 0 0, .slice none 0 0] 29)) (w.heap.size) 29 [.slice A K.length c, .slice B C.length d] := by simpa using (BoxAt.alloc (BoxAt.new w 29 [.slice A K.length c, .slice B C.length d]) (.cells #[.slice none 0 0, .slice none 0 0] 29))
  have h2 : BoxAt ((w.alloc (.cells #[.slice A K.length c, .slice B C.length d] 29)).alloc (.cells #[.slice none 0 0, .slice none 0 0] 29)) (w.heap.size + 1) 29 [.slice none 0 0, .slice none 0 0] := by simpa using (BoxAt.new (w.alloc (.cells #[.slice A K.length c, .slice B C.length d] 29)) 29 [.slice none 0 0, .slice none 0 0])
  have hs0 := (Same.alloc (Same.alloc (Same.refl w) (.cells #[.slice A K.length c, .slice B C.length d] 29)) (.cells #[.slice none 0 0, .slice none 0 0] 29))
  generalize ((w.alloc (.cells #[.slice A K.length c, .slice B C.length d] 29)).alloc (.cells #[.slice none 0 0, .slice none 0 0] 29)) = w0 at *
  have n0 := hs0.size
  have l2 := h2.lt
  refine (iBankOk_any A B c d K C _ (by omega) (by omega) HWK.out (hA.same hs0) (hB.same hs0)).mono ?_
  rintro e w1 ⟨rfl, S4⟩
  cases m1 : bankOk K C
  · have HO := show aftRS K C R = 0 from (aftR_no m1).2.2
    have HN := Lib.hid (show aftRK K C R = K ∧ aftRC K C R = C from ⟨(aftR_no m1).1, (aftR_no m1).2.1⟩)
    replace HO := Lib.hid HO
    have e10 := (h1.same S4).cell 0 rfl
    have e11 := (h1.same S4).cell 1 rfl
    clear m1 l2
    go_wp2_with fail
    refine (copyBank_any A c K B d C _ (by omega) (hA.same (hs0.trans S4)) (by omega) (hB.same (hs0.trans S4))).mono ?_
    rintro e w9 ⟨A9, c9, B9, d9, rfl, ho9, hc9, sp9, hs9⟩
    have S9 := Same.trans S4 hs9
    have m9 := Same.size S4
    have k9 := h2.same S9
    have k90 := k9.cell 0 rfl
    have k91 := k9.cell 1 rfl
    have f90 := k9.frozen 0
    have f91 := k9.frozen 1
    have kk := (k9.set 0 (.slice A9 K.length c9)).set 1 (.slice B9 C.length d9)
    have cf0 := kk.cell 0 rfl
    have cf1 := kk.cell 1 rfl
    have l2 := h2.lt
    have nk9 : (Value.slice A9 K.length c9).ownBlock ≠ some (w.heap.size + 1) := fun e' => by have := (owns_new ho9 _ e').1; omega
    have nc9 : (Value.slice B9 C.length d9).ownBlock ≠ some (w.heap.size + 1) := fun e' => by have := (owns_new hc9 _ e').1; omega
    go_wp2
    refine bodyPost_ret (v := .tuple #[.agg #[.slice A9 K.length c9, .slice B9 C.length d9], .int .i64 0]) (by simp [results, Try.results45, go_sem, cf0, cf1]) rfl ?_
    show RetBankX _ _ _ _ _ _
    rw [RetBankX, HN.out.1, HN.out.2, HO.out]
    exact ⟨_, _, _, _, rfl, owns_set (owns_set (ho9.base (by omega)) nk9) nk9, owns_set (owns_set (hc9.base (by omega)) nc9) nc9, sp9, ((hs0.trans S9).setCell (by simp) _).setCell (by simp) _⟩
  · have HM := Lib.hid m1
    have HI := Lib.hid (bankOk_iff.1 m1)
    have hlen : K.length ≤ 2000 := HI.out.2.1
    have n1 := S4.size
    clear m1
    have hal := (Same.refl w1).alloc (.cells #[.slice none 0 0, .slice none 0 0] 29)
    have hb : BankAt (w1.alloc (.cells #[.slice none 0 0, .slice none 0 0] 29)) w1.heap.size w0.heap.size none 0 (aftK K R 0) none 0 (aftC K C R 0) :=
      ⟨BoxAt.new w1 _ [_, _], OwnI.nil _ _, OwnI.nil _ _, fun g h1 h2 => (by cases h1), fun h => (by cases h), fun h => (by cases h)⟩
    have S5 := S4.trans hal
    have e10 := (h1.same S5).cell 0 rfl
    go_wp2
    generalize w1.alloc (.cells #[.slice none 0 0, .slice none 0 0] 29) = w2 at *
    clear e10
    go_loopw [7, 19] (fun t7 t19 wr => ∃ (k : Nat) (A2 : Option Addr) (c2 : Nat) (B2 : Option Addr) (d2 : Nat), k ≤ K.length ∧ t19 = .int .i64 k ∧ t7 = .int .i64 (aftS K C R k) ∧ BankAt wr w1.heap.size w0.heap.size A2 c2 (aftK K R k) B2 d2 (aftC K C R k) ∧ Same w0 wr) (fun _ t19 _ => K.length - (intOf t19).toNat)
    case atStart => exact ⟨0, none, 0, none, 0, Nat.zero_le _, rfl, rfl, hb, S5⟩
    case round =>
      obtain ⟨k, A2, c2, B2, d2, hk, rfl, rfl, hbk, S6⟩ := hrel
      clear hb S5
      have hsr := aftS_range R HM.out k hk
      have hlM := aftK_len K R k
      have hlN := aftC_len K C R k
      obtain ⟨M, hM⟩ : ∃ M, M = aftK K R k := ⟨_, rfl⟩
      obtain ⟨N, hN⟩ : ∃ N, N = aftC K C R k := ⟨_, rfl⟩
      obtain ⟨s, hS⟩ : ∃ s, s = aftS K C R k := ⟨_, rfl⟩
      rw [← hM] at hlM hbk
      rw [← hN] at hlN hbk
      rw [← hS] at hsr ⊢
      have HMM := Lib.hid hM
      have HNN := Lib.hid hN
      have HSS := Lib.hid hS
      clear hM hN hS
      by_cases hlt : k < K.length
      · obtain ⟨b, off, x, rfl, cx0, HX, hbl⟩ := hA.at_ hlt
        obtain ⟨b', off', y, rfl, cy0, HY, hbl'⟩ := hB.at_ (k := k) (by have := HI.out.1; omega)
        have HCY := Lib.hid cy0
        have cx := ((hs0.trans S6).cell (p := ⟨b, off + k, none⟩) hbl).trans cx0
        clear cy0 cx0
        have q0 : (0 : Int) ≤ (k : Int) := by omega
        have q1 : (k : Int) < (K.length : Int) := by omega
        have q2 : (k : Int) < (C.length : Int) := by have := HI.out.1; omega
        have hy := (HI.out.2.2 k x y HX.out HY.out).2.1
        go_wp2_with fail
        refine (contains_any E q R x _ hzR ((hE.same hs0).same S6)).mono ?_
        rintro e w7 ⟨rfl, hs7⟩
        replace hbk := hbk.same hs7
        have S7 := S6.trans hs7
        clear cx hs7 S6
        cases hr : hasK R x
        · have HK1 := Lib.hid (aftK_no HX.out hr)
          have HC1 := Lib.hid (aftC_no HX.out HY.out hr)
          have HS1 := Lib.hid (aftS_no (C := C) HX.out hr)
          rw [← HMM.out] at HK1
          rw [← HNN.out] at HC1
          rw [← HSS.out] at HS1
          obtain ⟨M3, hM3⟩ : ∃ M3, M3 = aftK K R (k + 1) := ⟨_, rfl⟩
          obtain ⟨N3, hN3⟩ : ∃ N3, N3 = aftC K C R (k + 1) := ⟨_, rfl⟩
          rw [← hM3] at HK1
          rw [← hN3] at HC1
          have HM3 := Lib.hid hM3
          have HN3 := Lib.hid hN3
          clear hr hM3 hN3
          have k2 := (BoxAt.new w7 3 [.int .i64 x]).cell 0 rfl
          have s2a := (Same.refl w7).alloc (.cells #[.int .i64 x] 3)
          have ra := hbk.keys.same s2a
          have c20 := hbk.box.cell 0 rfl
          go_upto_region 11 with (at_builtin; refine wpList_of rfl fun _ hK => wp_oneI _ (.tmp 35) (.tmp 37) rfl w0.heap.size _ M rfl ra _ 1 x rfl ?_ ?_ ?_ ?_ (fun v' w8 ho3 hup3 hfr3 => hK _ _ ?_); (simpa using k2); omega; (simp); (have := S7.size; simp; omega); (rw [← HK1.out] at ho3); (obtain ⟨A3, c3, rfl⟩ := ho3.form); (have hb3 := hbk.put0 s2a hup3 ho3 hfr3); (have S8 := (grown_same (S7.trans s2a) hup3 (fun g hg => (owns_new ra g hg).1)).setCell (p := ⟨w1.heap.size, 0, none⟩) n1 (.slice A3 M3.length c3)); (have fb3 := grown_box hup3 (hbk.box.same s2a) hbk.nk); (have fz3 := fb3.frozen 0); (have fc3 := fb3.cell 0 rfl); clear hup3 ho3 hfr3)
          clear fb3 fz3 fc3 c20 k2 ra s2a
          generalize w8.setCell ⟨w1.heap.size, 0, none⟩ (.slice A3 M3.length c3) = w9 at *
          have n9 := S8.size
          have hal9 := (Same.refl w9).alloc (.cells #[.int .i64 y] 3)
          have hb9 := hb3.same hal9.drew
          have d1 := ((hs0.trans S8).cell (p := ⟨b', off' + k, none⟩) hbl').trans HCY.out
          have d2 := ((hs0.trans (S8.trans hal9)).cell (p := ⟨b', off' + k, none⟩) hbl').trans HCY.out
          have r1 := (h1.same S8).cell 1 rfl
          have r2 := (h1.same (S8.trans hal9)).cell 1 rfl
          have b1 := hb3.box.cell 1 rfl
          have b2 := (hb3.same hal9).box.cell 1 rfl
          have hn1 := (BoxAt.new w9 3 [.int .i64 y]).cell 0 rfl
          have hn2 := ((BoxAt.new w9 3 [.int .i64 y]).same (Same.refl _).drew).cell 0 rfl
          go_region_law ((refine step_oneI _ (by rfl) (.tmp 41) (.tmp 47) (by rfl) w0.heap.size _ N (by rfl) hb9.cents w9.heap.size 1 y (by rfl) (by first | exact hn2 | exact hn1) (by omega) (by simp) (by have := hal9.drew.size; omega) ?_; intro v' w12 ho12 hg12 hf12; rw [← HC1.out] at ho12; (obtain ⟨B3, d3, rfl⟩ := ho12.form); (have hb12 := hb9.put1 (Same.refl _) hg12 ho12 hf12); (have b12 := grown_box hg12 hb9.box hb9.nc); (have c12 := b12.cell 1 rfl); (have e12 := b12.frozen 1); (have S12 := (grown_same (S8.trans hal9.drew) hg12 (fun g hg => (owns_new hb9.cents g hg).1)).setCell (p := ⟨w1.heap.size, 1, none⟩) n1 (.slice B3 N3.length d3))))
          all_goals go_wp2
          all_goals go_roundw
          all_goals first
            | exact ⟨k + 1, A3, c3, B3, d3, hlt, by go_num, by rw [HS1.out], by rw [← HM3.out, ← HN3.out]; exact hb12, S12⟩
            | (simp [intOf]; omega)
        · have HK1 := Lib.hid (aftK_yes HX.out hr)
          have HC1 := Lib.hid (aftC_yes (C := C) HX.out hr)
          have HS1 := Lib.hid (aftS_yes HX.out HY.out hr)
          rw [← HMM.out] at HK1
          rw [← HNN.out] at HC1
          rw [← HSS.out] at HS1
          clear hr
          have e11 := (h1.same S7).cell 1 rfl
          have cy := ((hs0.trans S7).cell (p := ⟨b', off' + k, none⟩) hbl').trans HCY.out
          go_wp2
          go_roundw
          case rel => exact ⟨k + 1, A2, c2, B2, d2, hlt, by go_num, by rw [HS1.out], by rw [HK1.out, HC1.out]; exact hbk, S7⟩
          case measure => simp [intOf]; omega
      · have hkl : k = K.length := by omega
        have hx := hbk.box
        have b0 := hx.cell 0 rfl
        have b1 := hx.cell 1 rfl
        have k9 := h2.same S6
        have f90 := k9.frozen 0
        have f91 := k9.frozen 1
        have k90 := k9.cell 0 rfl
        have k91 := k9.cell 1 rfl
        have kk := (k9.set 0 (.slice A2 M.length c2)).set 1 (.slice B2 N.length d2)
        have cf0 := kk.cell 0 rfl
        have cf1 := kk.cell 1 rfl
        have nk9 : (Value.slice A2 M.length c2).ownBlock ≠ some (w.heap.size + 1) := fun e' => by have := (owns_new hbk.keys _ e').1; omega
        have nc9 : (Value.slice B2 N.length d2).ownBlock ≠ some (w.heap.size + 1) := fun e' => by have := (owns_new hbk.cents _ e').1; omega
        have HR := Lib.hid (aftR_yes (R := R) HM.out)
        have hkl' : ¬ (k : Int) < (K.length : Int) := by omega
        have HKL := Lib.hid hkl
        clear hkl
        go_wp2
        refine bodyPost_ret (v := .tuple #[.agg #[.slice A2 M.length c2, .slice B2 N.length d2], .int .i64 s]) (by simp [results, Try.results45, go_sem, cf0, cf1]) rfl ?_
        show RetBankX _ _ _ _ _ _
        rw [RetBankX, HR.out.1, HR.out.2.1, HR.out.2.2, ← HKL.out, ← HMM.out, ← HNN.out, ← HSS.out]
        exact ⟨_, _, _, _, rfl, owns_set (owns_set (hbk.keys.base (by omega)) nk9) nk9, owns_set (owns_set (hbk.cents.base (by omega)) nc9) nc9, hbk.sep, ((hs0.trans S6).setCell (by simp) _).setCell (by simp) _⟩
end Go.Proofs.Ytccgbilgfnoheaa
