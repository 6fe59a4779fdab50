/-
  The contract of the reference's RunNew.
-/
import Derived.Test.YtccgbilgfnoheaaRunNew
namespace Go.Proofs.Ytccgbilgfnoheaa
open Go.RowKit
set_option linter.unusedVariables false

set_option maxHeartbeats 4000000 in
theorem sRunNew_any (month : Int) (A : Option Addr) (c : Nat) (ms : List Int) (B : Option Addr) (d : Nat) (cs : List Int) (w : World) (hz : ms.length ≤ 900000000) (hA : IntsAt w A ms) (hz' : cs.length ≤ 900000000) (hB : IntsAt w B cs) :
    Calls Try.prog 33 #[.int .i64 month, .slice A ms.length c, .slice B cs.length d] w (RetNew w month ms cs) := by
  by_cases hl : ms.length = cs.length
  · by_cases h40 : ms.length ≤ 40
    · have hne : ((ms.length : Int) != (cs.length : Int)) = false := by rw [hl]; simp
      have heq : ((ms.length : Int) == (cs.length : Int)) = true := by rw [hl]; simp
      have h40' : (ms.length : Int) ≤ 40 := by omega
      have HL := Lib.hid hl
      clear hl
      go_enter Try.func33, Try.ntmps33
      go_wp2
      have h1 : BoxAt ((w.alloc (.cells #[.int .i64 0, .slice none 0 0] 26)).alloc (.cells #[.int .i64 month, .slice none 0 0] 26)) (w.heap.size) 26 [.int .i64 0, .slice none 0 0] := by simpa using (BoxAt.alloc (BoxAt.new w 26 [.int .i64 0, .slice none 0 0]) (.cells #[.int .i64 month, .slice none 0 0] 26))
      have h2 : BoxAt ((w.alloc (.cells #[.int .i64 0, .slice none 0 0] 26)).alloc (.cells #[.int .i64 month, .slice none 0 0] 26)) (w.heap.size + 1) 26 [.int .i64 month, .slice none 0 0] := by simpa using (BoxAt.new (w.alloc (.cells #[.int .i64 0, .slice none 0 0] 26)) 26 [.int .i64 month, .slice none 0 0])
      have hs0 := (Same.alloc (Same.alloc (Same.refl w) (.cells #[.int .i64 0, .slice none 0 0] 26)) (.cells #[.int .i64 month, .slice none 0 0] 26))
      generalize ((w.alloc (.cells #[.int .i64 0, .slice none 0 0] 26)).alloc (.cells #[.int .i64 month, .slice none 0 0] 26)) = w0 at *
      have n2 := h2.lt
      have n0 := hs0.size
      go_loopw [9] (fun i wr => ∃ (k : Nat) (A1 : Option Addr) (c1 : Nat), k ≤ ms.length ∧ i = .int .i64 k ∧ BoxAt wr w.heap.size 26 [.int .i64 0, .slice none 0 0] ∧ BoxAt wr (w.heap.size + 1) 26 [.int .i64 month, .slice A1 ((zipI ms cs).take k).length c1] ∧ OwnItem wr w0.heap.size (.slice A1 ((zipI ms cs).take k).length c1) ((zipI ms cs).take k) ∧ Same w wr ∧ w0.heap.size ≤ wr.heap.size) (fun i _ => ms.length - (intOf i).toNat)
      case atStart => exact ⟨0, none, 0, Nat.zero_le _, rfl, h1, by simpa using h2, by simpa using OwnR.nil _ _ _ _ _, hs0, Nat.le_refl _⟩
      case round =>
        obtain ⟨k, A1, c1, hk, rfl, hb1, hb2, hown, hs, hw⟩ := hrel
        clear h1 h2
        by_cases hlt : k < ms.length
        · obtain ⟨b, off, x, rfl, cx, HX, hbl⟩ := (hA.same hs).at_ hlt
          obtain ⟨b', off', y, rfl, cy, HY, hbl'⟩ := (hB.same hs).at_ (k := k) (by have := HL.out; omega)
          have HZ := Lib.hid (zipI_take HX.out HY.out)
          have q1 : (k : Int) < (ms.length : Int) := by omega
          have q0 : (0 : Int) ≤ (k : Int) := by omega
          have q2 : (k : Int) < (cs.length : Int) := by have := HL.out; omega
          have c20 := hb2.cell 0 rfl
          have c21 := hb2.cell 1 rfl
          have f21 := hb2.frozen 1
          clear hA hB
          obtain ⟨M, hM⟩ : ∃ M, M = (zipI ms cs).take k := ⟨_, rfl⟩
          have hMl : M.length ≤ 900000000 := by rw [hM]; simp; omega
          rw [← hM] at hown hb2 c21 HZ
          clear hM
          have hal := (Same.refl wr).alloc (.cells #[.int .i64 x, .int .i64 y, .int .i64 0] 41)
          have hown' := OwnR.same hown hal.drew
          have hb1' := hb1.same hal.drew
          have hb2' := hb2.same hal.drew
          have a21 := (hb2.same hal).cell 1 rfl
          go_wp2
          go_region_law ((refine step_oneItem _ (by rfl) (.tmp 31) (.tmp 41) (by rfl) w0.heap.size _ M (by rfl) hown' wr.heap.size 1 (x, y, 0) (by rfl) (by intro j u hu; exact cells_new rfl j u hu) (by omega) (by simp) (by simp; omega) ?_; intro v' w3 ho3 hup hfr; (obtain ⟨A3, c3, rfl⟩ := ho3.form); (have k2 := grown_box hup hb2' (Sep.box hown' (by omega))); (have k1 := grown_box hup hb1' (Sep.box hown' (by omega))); (have z20 := k2.cell 0 rfl); (have z21 := k2.cell 1 rfl); (have zf1 := k2.frozen 1)))
          all_goals
            have S3 := grown_same (hs.trans hal.drew) hup (fun g hg => by have := (owns_new hown' g hg).1; omega)
            have n3 := hup.size
            have hw3 : w0.heap.size ≤ w3.heap.size := Nat.le_trans hw (Nat.le_trans hal.drew.size n3)
            have zo := ho3.zn
            go_wp2
            go_roundw
            case rel => exact ⟨k + 1, A3, c3, hlt, by go_num, k1.other (k := w.heap.size + 1) (j := 1) _ (by omega), by rw [HZ.out, List.length_append]; exact k2.set 1 _, by rw [HZ.out]; exact ho3.upd (upd_setCell _ _ _ _) zo (.inr (by omega)), S3.setCell (by simp) _, by simpa using hw3⟩
            case measure => simp [intOf]; omega
        · obtain rfl : k = ms.length := by omega
          have hL := zipI_len HL.out
          rw [← hL, List.take_length] at hown hb2
          have hLz : (zipI ms cs).length ≤ 900000000 := by omega
          clear hL
          have e1 : (((zipI ms cs).length : Int) != (ms.length : Int)) = false := by rw [zipI_len HL.out]; simp
          have c20 := hb2.cell 0 rfl
          have c21 := hb2.cell 1 rfl
          go_wp2_with fail
          refine (sRunOk_any month A1 c1 (zipI ms cs) _ (by omega) (OwnR.recs cItem_len hown)).mono ?_
          rintro e w4 ⟨rfl, hs4⟩
          replace hb1 := hb1.same hs4
          replace hb2 := hb2.same hs4
          replace hown := hown.same hs4
          have S4 := hs.trans hs4
          have n4 := hs4.size
          clear hs4 c20 c21 hs
          have d10 := hb1.cell 0 rfl
          have d11 := hb1.cell 1 rfl
          have f10 := hb1.frozen 0
          have f11 := hb1.frozen 1
          have zo := hown.zn
          cases ho : runOk month (zipI ms cs)
          · have hno : newOk month ms cs = false := by rw [newOk, ho]; simp
            have HN := Lib.hid (new_no hno)
            have HO := Lib.hid hno
            have k4 := (hb1.set 0 (.int .i64 0)).set 1 (.slice none 0 0)
            have cf0 := k4.cell 0 rfl
            have cf1 := k4.cell 1 rfl
            clear hno
            go_wp2
            refine bodyPost_ret (v := .tuple #[.agg #[.int .i64 0, .slice none 0 0], .bool false]) (by simp [results, Try.results33, go_sem, cf0, cf1]) rfl ?_
            show RetNew _ _ _ _ _ _
            rw [RetNew, HN.out.1, HN.out.2, HO.out]
            exact ⟨none, 0, rfl, OwnR.nil _ _ _ _ _, (S4.setCell (by simp) _).setCell (by simp) _⟩
          · have hno : newOk month ms cs = true := by rw [newOk, ho, HL.out]; simp
            have HN := Lib.hid (new_yes hno)
            have HO := Lib.hid hno
            have d20 := hb2.cell 0 rfl
            have d21 := hb2.cell 1 rfl
            have k4 := (hb1.set 0 (.int .i64 month)).set 1 (.slice A1 (zipI ms cs).length c1)
            have cf0 := k4.cell 0 rfl
            have cf1 := k4.cell 1 rfl
            clear hno
            go_wp2
            refine bodyPost_ret (v := .tuple #[.agg #[.int .i64 month, .slice A1 (zipI ms cs).length c1], .bool true]) (by simp [results, Try.results33, go_sem, cf0, cf1]) rfl ?_
            show RetNew _ _ _ _ _ _
            rw [RetNew, HN.out.1, HN.out.2, HO.out]
            exact ⟨A1, c1, rfl, ((hown.rebase n0).upd (upd_setCell _ _ _ _) zo (.inr (by omega))).upd (upd_setCell _ _ _ _) zo (.inr (by omega)), (S4.setCell (by simp) _).setCell (by simp) _⟩
    · have hne : ((ms.length : Int) != (cs.length : Int)) = false := by rw [hl]; simp
      have heq : ((ms.length : Int) == (cs.length : Int)) = true := by rw [hl]; simp
      have h40' : ¬ (ms.length : Int) ≤ 40 := by omega
      have hno : newOk month ms cs = false := by
        have : runOk month (zipI ms cs) = false := by rw [runOk, zipI_len hl, decide_eq_false h40]; simp
        rw [newOk, this]; simp
      have HN := Lib.hid (new_no hno)
      have HO := Lib.hid hno
      clear hno hl
      have e0 : ((0 : Int) != (ms.length : Int)) = true := by simp; omega
      go_enter Try.func33, Try.ntmps33
      go_wp2
      have h1 : BoxAt ((w.alloc (.cells #[.int .i64 0, .slice none 0 0] 26)).alloc (.cells #[.int .i64 month, .slice none 0 0] 26)) (w.heap.size) 26 [.int .i64 0, .slice none 0 0] := by simpa using (BoxAt.alloc (BoxAt.new w 26 [.int .i64 0, .slice none 0 0]) (.cells #[.int .i64 month, .slice none 0 0] 26))
      have h2 : BoxAt ((w.alloc (.cells #[.int .i64 0, .slice none 0 0] 26)).alloc (.cells #[.int .i64 month, .slice none 0 0] 26)) (w.heap.size + 1) 26 [.int .i64 month, .slice none 0 0] := by simpa using (BoxAt.new (w.alloc (.cells #[.int .i64 0, .slice none 0 0] 26)) 26 [.int .i64 month, .slice none 0 0])
      have hs0 := (Same.alloc (Same.alloc (Same.refl w) (.cells #[.int .i64 0, .slice none 0 0] 26)) (.cells #[.int .i64 month, .slice none 0 0] 26))
      generalize ((w.alloc (.cells #[.int .i64 0, .slice none 0 0] 26)).alloc (.cells #[.int .i64 month, .slice none 0 0] 26)) = w0 at *
      go_loopw [9] (fun i wr => i = .int .i64 0 ∧ wr = w0) (fun _ _ => 0)
      case atStart => exact ⟨rfl, rfl⟩
      case round =>
        obtain ⟨rfl, rfl⟩ := hrel
        have hs := hs0
        have d10 := h1.cell 0 rfl
        have d11 := h1.cell 1 rfl
        have f10 := h1.frozen 0
        have f11 := h1.frozen 1
        have c20 := h2.cell 0 rfl
        have c21 := h2.cell 1 rfl
        have k4 := (h1.set 0 (.int .i64 0)).set 1 (.slice none 0 0)
        have cf0 := k4.cell 0 rfl
        have cf1 := k4.cell 1 rfl
        by_cases hlt : 0 < ms.length
        · go_wp2
          refine bodyPost_ret (v := .tuple #[.agg #[.int .i64 0, .slice none 0 0], .bool false]) (by simp [results, Try.results33, go_sem, cf0, cf1]) rfl ?_
          show RetNew _ _ _ _ _ _
          rw [RetNew, HN.out.1, HN.out.2, HO.out]
          exact ⟨none, 0, rfl, OwnR.nil _ _ _ _ _, (hs.setCell (by simp) _).setCell (by simp) _⟩
        · omega
  · have hne : ((ms.length : Int) != (cs.length : Int)) = true := by simp; omega
    have heq : ((ms.length : Int) == (cs.length : Int)) = false := by simp; omega
    have hno : newOk month ms cs = false := by rw [newOk, decide_eq_false hl]; rfl
    have HN := Lib.hid (new_no hno)
    have HO := Lib.hid hno
    clear hno
    go_enter Try.func33, Try.ntmps33
    go_wp2
    have h1 : BoxAt ((w.alloc (.cells #[.int .i64 0, .slice none 0 0] 26)).alloc (.cells #[.int .i64 month, .slice none 0 0] 26)) (w.heap.size) 26 [.int .i64 0, .slice none 0 0] := by simpa using (BoxAt.alloc (BoxAt.new w 26 [.int .i64 0, .slice none 0 0]) (.cells #[.int .i64 month, .slice none 0 0] 26))
    have h2 : BoxAt ((w.alloc (.cells #[.int .i64 0, .slice none 0 0] 26)).alloc (.cells #[.int .i64 month, .slice none 0 0] 26)) (w.heap.size + 1) 26 [.int .i64 month, .slice none 0 0] := by simpa using (BoxAt.new (w.alloc (.cells #[.int .i64 0, .slice none 0 0] 26)) 26 [.int .i64 month, .slice none 0 0])
    have hs0 := (Same.alloc (Same.alloc (Same.refl w) (.cells #[.int .i64 0, .slice none 0 0] 26)) (.cells #[.int .i64 month, .slice none 0 0] 26))
    generalize ((w.alloc (.cells #[.int .i64 0, .slice none 0 0] 26)).alloc (.cells #[.int .i64 month, .slice none 0 0] 26)) = w0 at *
    go_loopw [9] (fun i wr => i = .int .i64 0 ∧ wr = w0) (fun _ _ => 0)
    case atStart => exact ⟨rfl, rfl⟩
    case round =>
      obtain ⟨rfl, rfl⟩ := hrel
      have hs := hs0
      have d10 := h1.cell 0 rfl
      have d11 := h1.cell 1 rfl
      have f10 := h1.frozen 0
      have f11 := h1.frozen 1
      have c20 := h2.cell 0 rfl
      have c21 := h2.cell 1 rfl
      have k4 := (h1.set 0 (.int .i64 0)).set 1 (.slice none 0 0)
      have cf0 := k4.cell 0 rfl
      have cf1 := k4.cell 1 rfl
      by_cases hlt : 0 < ms.length
      · go_wp2
        refine bodyPost_ret (v := .tuple #[.agg #[.int .i64 0, .slice none 0 0], .bool false]) (by simp [results, Try.results33, go_sem, cf0, cf1]) rfl ?_
        show RetNew _ _ _ _ _ _
        rw [RetNew, HN.out.1, HN.out.2, HO.out]
        exact ⟨none, 0, rfl, OwnR.nil _ _ _ _ _, (hs.setCell (by simp) _).setCell (by simp) _⟩
      · have hl0 : ms.length = 0 := by omega
        go_wp2
        refine bodyPost_ret (v := .tuple #[.agg #[.int .i64 0, .slice none 0 0], .bool false]) (by simp [results, Try.results33, go_sem, cf0, cf1]) rfl ?_
        show RetNew _ _ _ _ _ _
        rw [RetNew, HN.out.1, HN.out.2, HO.out]
        exact ⟨none, 0, rfl, OwnR.nil _ _ _ _ _, (hs.setCell (by simp) _).setCell (by simp) _⟩
end Go.Proofs.Ytccgbilgfnoheaa
