/-
  RunOk of the reference; runs copied and compared.
-/
import Derived.Test.YtccgbilgfnoheaaRun
namespace Go.Proofs.Ytccgbilgfnoheaa
open Go.RowKit

set_option maxHeartbeats 2000000 in
theorem sRunOk_any (m : Int) (A : Option Addr) (c : Nat) (L : List TItem) (w : World) (hz : L.length ≤ 9223372036854775807) (hA : AtItem w A L) :
    Calls Try.prog 30 #[.agg #[.int .i64 m, .slice A L.length c]] w fun e w' => e = .returned (.bool (runOk m L)) ∧ Same w w' := by
  go_enter Try.func30, Try.ntmps30
  go_wp2
  have hb : BoxAt (w.alloc (.cells #[.int .i64 m, .slice A L.length c] 26)) (w.heap.size) 26 [.int .i64 m, .slice A L.length c] := by simpa using (BoxAt.new w 26 [.int .i64 m, .slice A L.length c])
  have hs0 := (Same.alloc (Same.refl w) (.cells #[.int .i64 m, .slice A L.length c] 26))
  generalize (w.alloc (.cells #[.int .i64 m, .slice A L.length c] 26)) = w0 at *
  go_loopw [3] (fun i wr => ∃ k : Nat, k ≤ L.length ∧ i = .int .i64 k ∧ Hid (allTo (itemAt L) k = true) ∧ Same w0 wr) (fun i _ => L.length - (intOf i).toNat)
  case atStart => exact ⟨0, Nat.zero_le _, rfl, rfl, Same.refl _⟩
  case round =>
    obtain ⟨k, hk, rfl, hall, hs⟩ := hrel
    have hbr := hb.same hs
    have c0 := hbr.cell 0 rfl
    have c1 := hbr.cell 1 rfl
    by_cases hlt : k < L.length
    · obtain ⟨b, off, x, rfl, hc, HX, _⟩ := ((hA.same hs0).same hs).at_ hlt
      obtain ⟨f0, f1, f2⟩ := x
      have HA := Lib.hid ((hA.same hs0).same hs)
      have HE := Lib.hid (itemAt_eq HX.out)
      have HB := Lib.hid hbr
      clear hA hb
      have e0 := hc 0 _ rfl
      have e1 := hc 1 _ rfl
      have e2 := hc 2 _ rfl
      simp only [Nat.add_zero] at e0
      clear hc
      cases m1 : inB f0 1 999
      · have HN := Lib.hid (runOk_not (m := m) hlt (by rw [HE.out]; simp [itemOk, m1]))
        go_wp2_with (go_at_call 65; refine (l01In_any _ _ _ _).mono ?_; rintro e w' ⟨rfl, rfl⟩)
        go_ret
        exact ⟨ret_bool HN.out.symm, hs0.trans (hs.alloc _)⟩
      · cases m2 : inB f1 0 10000000
        · have HN := Lib.hid (runOk_not (m := m) hlt (by rw [HE.out]; simp [itemOk, m2]))
          go_wp2_with (go_at_call 65; refine (l01In_any _ _ _ _).mono ?_; rintro e w' ⟨rfl, rfl⟩)
          go_ret
          exact ⟨ret_bool HN.out.symm, hs0.trans (hs.alloc _)⟩
        · cases m3 : inB f2 0 2
          · have HN := Lib.hid (runOk_not (m := m) hlt (by rw [HE.out]; simp [itemOk, m3]))
            go_wp2_with (go_at_call 65; refine (l01In_any _ _ _ _).mono ?_; rintro e w' ⟨rfl, rfl⟩)
            go_ret
            exact ⟨ret_bool HN.out.symm, hs0.trans (hs.alloc _)⟩
          · have hx := BoxAt.new wr 41 [.int .i64 f0, .int .i64 f1, .int .i64 f2]
            have hsx := (Same.refl wr).alloc (.cells #[.int .i64 f0, .int .i64 f1, .int .i64 f2] 41)
            have HH := Lib.hid (show ∀ v, hasM (L.take k) f0 = v → itemAt L k = !v by intro v h; rw [HE.out, h]; simp [itemOk, m1, m2, m3])
            go_wp2_with (go_at_call 65; refine (l01In_any _ _ _ _).mono ?_; rintro e w' ⟨rfl, rfl⟩)
            clear m1 m2 m3 e0 e1 e2
            generalize wr.alloc (.cells #[.int .i64 f0, .int .i64 f1, .int .i64 f2] 41) = w1 at *
            go_loopw [5] (fun i w2 => ∃ q : Nat, q ≤ k ∧ i = .int .i64 q ∧ Hid ((L.take q).all (fun o => !(o.1 == f0)) = true) ∧ Same w1 w2) (fun i _ => k - (intOf i).toNat)
            case atStart => exact ⟨0, Nat.zero_le _, rfl, by simp [Hid], Same.refl _⟩
            case round =>
              obtain ⟨q, hq, rfl, hqa, hs2⟩ := hrel
              have hss := hsx.trans hs2
              have d1 := (HB.out.same hss).cell 1 rfl
              have x0 := (hx.same hs2).cell 0 rfl
              clear c0 c1 hbr hx
              by_cases hql : q < k
              · obtain ⟨b', off', y, hAe', hc', HY, _⟩ := (HA.out.same hss).at_ (k := q) (by omega)
                injection hAe' with hee
                injection hee with hb1 hb2 _
                subst hb1 hb2
                obtain ⟨g0, g1, g2⟩ := y
                have q0 : (0 : Int) ≤ (q : Int) := by omega
                have q1 : (q : Int) < (L.length : Int) := by omega
                have y0 := hc' 0 _ rfl
                have y1 := hc' 1 _ rfl
                have y2 := hc' 2 _ rfl
                simp only [Nat.add_zero] at y0
                clear hc'
                cases hp : (g0 == f0)
                · have HP := Lib.hid (all_take_succ hqa.out HY.out (show (!(g0 == f0)) = true by rw [hp]; rfl))
                  go_wp2
                  go_quiet (fail)
                  go_wp2
                  go_roundw
                  case rel => exact ⟨q + 1, hql, by go_num, HP, hs2.drewN _⟩
                  case measure => simp [intOf]; omega
                · have HP := Lib.hid (runOk_not (m := m) hlt (HH.out true (hasM_yes (k := q) (by rw [List.getElem?_take_of_lt hql]; exact HY.out) hp)))
                  go_wp2
                  go_quiet (fail)
                  go_wp2
                  go_ret
                  exact ⟨ret_bool HP.out.symm, hs0.trans ((hs.trans hss).drewN _)⟩
              · obtain rfl : q = k := by omega
                have HP := Lib.hid (show allTo (itemAt L) (q + 1) = true by rw [allTo, hall.out, HH.out false (hasM_no hqa.out)]; rfl)
                go_wp2
                go_roundw
                case rel => exact ⟨q + 1, hlt, by go_num, HP, hs.trans hss⟩
                case measure => simp [intOf]; omega
    · have HE := Lib.hid (show runOk m L = (inB m 0 3599 && decide (L.length ≤ 40)) by rw [runOk, show L.length = k by omega, hall.out]; rfl)
      cases m1 : inB m 0 3599
      · go_wp2_with (go_at_call 68; refine (sMonthOk_any _ _).mono ?_; rintro e w' ⟨rfl, rfl⟩)
        go_ret
        exact ⟨ret_bool (by rw [HE.out, m1]; rfl), hs0.trans hs⟩
      · go_wp2_with (go_at_call 68; refine (sMonthOk_any _ _).mono ?_; rintro e w' ⟨rfl, rfl⟩)
        all_goals go_ret
        all_goals exact ⟨ret_bool (by rw [HE.out, m1]; simp; try omega), hs0.trans hs⟩

theorem szRun_any (m : Int) (A : Option Addr) (n c : Nat) (l : Int) (w : World) (hn : n ≤ 9223372036854775807) (h0 : 0 ≤ l) (h1 : l ≤ 1048576) :
    Calls Try.prog 29 #[.agg #[.int .i64 m, .slice A n c], .int .i64 l] w fun e w' => e = .returned (.int .i64 (if (n : Int) ≤ l then l - n else -1)) ∧ Same w w' := by
  by_cases h : (n : Int) ≤ l
  · go_enter Try.func29, Try.ntmps29
    go_wp2_with fail
    refine (szItemS_any A n c l _ hn h0 h1).mono ?_
    rintro e w1 ⟨rfl, rfl⟩
    rw [if_pos h]
    go_wp2
    go_ret
    exact ⟨rfl, (Same.refl w).alloc _⟩
  · go_enter Try.func29, Try.ntmps29
    go_wp2_with fail
    refine (szItemS_any A n c l _ hn h0 h1).mono ?_
    rintro e w1 ⟨rfl, rfl⟩
    rw [if_neg (show ¬ (n : Int) ≤ l by omega)]
    go_wp2
    go_ret
    exact ⟨rfl, (Same.refl w).alloc _⟩

/-- A run handed back, its row new. -/
def RetRun (w : World) (m : Int) (L : List TItem) (e : Ending) (w' : World) : Prop := ∃ A c, e = .returned (.agg #[.int .i64 m, .slice A L.length c]) ∧ OwnItem w' w.heap.size (.slice A L.length c) L ∧ Same w w'

set_option maxHeartbeats 400000 in
theorem toRun_any (m : Int) (A : Option Addr) (c : Nat) (L : List TItem) (w : World) (hz : L.length ≤ 1048576) (hA : AtItem w A L) :
    Calls Try.prog 31 #[.agg #[.int .i64 m, .slice A L.length c]] w (RetRun w m L) := by
  go_enter Try.func31, Try.ntmps31
  go_wp2_with fail
  have h2 : BoxAt (((w.alloc (.cells #[.int .i64 m, .slice A L.length c] 49)).alloc (.cells #[.int .i64 0, .slice none 0 0] 26)).alloc (.cells #[.int .i64 m, .slice none 0 0] 26)) (w.heap.size + 1) 26 [.int .i64 0, .slice none 0 0] := by simpa using (BoxAt.alloc (BoxAt.new (w.alloc (.cells #[.int .i64 m, .slice A L.length c] 49)) 26 [.int .i64 0, .slice none 0 0]) (.cells #[.int .i64 m, .slice none 0 0] 26))
  have h3 : BoxAt (((w.alloc (.cells #[.int .i64 m, .slice A L.length c] 49)).alloc (.cells #[.int .i64 0, .slice none 0 0] 26)).alloc (.cells #[.int .i64 m, .slice none 0 0] 26)) (w.heap.size + 1 + 1) 26 [.int .i64 m, .slice none 0 0] := by simpa using (BoxAt.new ((w.alloc (.cells #[.int .i64 m, .slice A L.length c] 49)).alloc (.cells #[.int .i64 0, .slice none 0 0] 26)) 26 [.int .i64 m, .slice none 0 0])
  have hs0 := (Same.alloc (Same.alloc (Same.alloc (Same.refl w) (.cells #[.int .i64 m, .slice A L.length c] 49)) (.cells #[.int .i64 0, .slice none 0 0] 26)) (.cells #[.int .i64 m, .slice none 0 0] 26))
  generalize (((w.alloc (.cells #[.int .i64 m, .slice A L.length c] 49)).alloc (.cells #[.int .i64 0, .slice none 0 0] 26)).alloc (.cells #[.int .i64 m, .slice none 0 0] 26)) = w0 at *
  refine (toItemS_any A c L _ hz (hA.same hs0)).mono ?_
  rintro e w1 ⟨rfl, ho, hs1⟩
  have hlt := h3.lt
  have hlt' := hs1.size
  replace h2 := h2.same hs1
  replace h3 := h3.same hs1
  have c20 := h2.cell 0 rfl
  have f20 := h2.frozen 0
  have c21 := h2.cell 1 rfl
  have f21 := h2.frozen 1
  have c30 := h3.cell 0 rfl
  have f30 := h3.frozen 0
  have c31 := h3.cell 1 rfl
  have f31 := h3.frozen 1
  have k3 := h3.set 1 (.slice (some ⟨w0.heap.size, 0, none⟩) L.length L.length)
  have k2 := ((h2.other (k := w.heap.size + 1 + 1) (j := 1) (.slice (some ⟨w0.heap.size, 0, none⟩) L.length L.length) (by omega)).set 0 (.int .i64 m)).set 1 (.slice (some ⟨w0.heap.size, 0, none⟩) L.length L.length)
  have x30 := k3.cell 0 rfl
  have x31 := k3.cell 1 rfl
  have cf0 := k2.cell 0 rfl
  have cf1 := k2.cell 1 rfl
  go_wp2
  exact bodyPost_ret (v := .agg #[.int .i64 m, .slice (some ⟨w0.heap.size, 0, none⟩) L.length L.length]) (by simp [results, Try.results31, go_sem, cf0, cf1]) rfl ⟨_, _, rfl,
    ((((ho.rebase hs0.size).upd (upd_setCell _ _ _ _) ho.zn (.inr (by omega))).upd (upd_setCell _ _ _ _) ho.zn (.inr (by omega))).upd (upd_setCell _ _ _ _) ho.zn (.inr (by omega))),
    (((hs0.trans hs1).setCell (by simp; omega) _).setCell (by simp) _).setCell (by simp) _⟩

set_option maxHeartbeats 400000 in
theorem eqRun_any (A B : Option Addr) (c d : Nat) (xs ys : List TItem) (x y : Int) (w : World) (hx : xs.length ≤ 9223372036854775807) (hy : ys.length ≤ 9223372036854775807) (hA : AtItem w A xs) (hB : AtItem w B ys) :
    Calls Try.prog 32 #[.agg #[.int .i64 x, .slice A xs.length c], .agg #[.int .i64 y, .slice B ys.length d]] w fun e w' => e = .returned (.bool (decide (xs = ys) && decide (x = y))) ∧ Same w w' := by
  by_cases hxy : x = y
  · subst hxy
    have hb : (x != x) = false := by simp
    go_enter Try.func32, Try.ntmps32
    go_wp2_with fail
    have hs0 := (Same.alloc (Same.alloc (Same.refl w) (.cells #[.int .i64 x, .slice A xs.length c] 26)) (.cells #[.int .i64 x, .slice B ys.length d] 26))
    generalize ((w.alloc (.cells #[.int .i64 x, .slice A xs.length c] 26)).alloc (.cells #[.int .i64 x, .slice B ys.length d] 26)) = w0 at *
    refine (eqItemS_any A B c d xs ys _ hx hy (hA.same hs0) (hB.same hs0)).mono ?_
    rintro e w1 ⟨rfl, hs1⟩
    by_cases h : xs = ys
    · rw [decide_eq_true h]
      have H := Lib.hid h
      clear h
      go_wp2
      go_ret
      exact ⟨ret_bool (by simp [H.out]), hs0.trans hs1⟩
    · rw [decide_eq_false h]
      have H := Lib.hid h
      clear h
      go_wp2
      go_ret
      exact ⟨ret_bool (by simp [H.out]), hs0.trans hs1⟩
  · have hb : (x != y) = true := by simp [hxy]
    have HN := Lib.hid hxy
    clear hxy
    go_enter Try.func32, Try.ntmps32
    go_wp2
    go_ret
    exact ⟨ret_bool (by simp [HN.out]), ((Same.refl w).alloc _).alloc _⟩
end Go.Proofs.Ytccgbilgfnoheaa
