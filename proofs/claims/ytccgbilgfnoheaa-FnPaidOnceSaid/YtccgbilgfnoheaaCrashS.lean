/-
  RunCrash of the reference.
-/
import Derived.Test.YtccgbilgfnoheaaCrash
namespace Go.Proofs.Ytccgbilgfnoheaa
open Go.RowKit
set_option linter.unusedVariables false
set_option linter.unnecessarySimpa false

theorem set_same {α : Type} {x : α} : ∀ {L : List α} {k : Nat}, L[k]? = some x → L.set k x = L
  | [], _, h => by simp at h
  | y :: L, 0, h => by simp at h; rw [h]; rfl
  | y :: L, k + 1, h => by rw [List.set_cons_succ, set_same (by simpa using h)]
set_option maxHeartbeats 1000000 in
theorem sRunCrash_any (m : Int) (A : Option Addr) (c : Nat) (L : List TItem) (B : Option Addr) (d : Nat) (K : List Int) (D : Option Addr) (f : Nat) (C : List Int) (lost : Int) (w : World)
    (hz : L.length ≤ 1000000000) (hnA : A = none → c = 0) (hA : AtItem w A L) (hzK : K.length ≤ 1000000000) (hnB : B = none → d = 0) (hB : IntsAt w B K) (hzC : C.length ≤ 1000000000) (hnD : D = none → f = 0) (hD : IntsAt w D C) :
    Calls Try.prog 46 #[.agg #[.int .i64 m, .slice A L.length c], .agg #[.slice B K.length d, .slice D C.length f], .int .i64 lost] w (RetRB w m (crash m L lost) K C) := by
  have hz' : L.length ≤ 9223372036854775807 := by omega
  go_enter Try.func46, Try.ntmps46
  go_wp2_with fail
  have h1 : BoxAt ((((w.alloc (.cells #[.int .i64 m, .slice A L.length c] 26)).alloc (.cells #[.slice B K.length d, .slice D C.length f] 29)).alloc (.cells #[.int .i64 0, .slice none 0 0] 26)).alloc (.cells #[.slice none 0 0, .slice none 0 0] 29)) (w.heap.size) 26 [.int .i64 m, .slice A L.length c] := by simpa using (BoxAt.alloc (BoxAt.alloc (BoxAt.alloc (BoxAt.new w 26 [.int .i64 m, .slice A L.length c]) (.cells #[.slice B K.length d, .slice D C.length f] 29)) (.cells #[.int .i64 0, .slice none 0 0] 26)) (.cells #[.slice none 0 0, .slice none 0 0] 29))
  have h2 : BoxAt ((((w.alloc (.cells #[.int .i64 m, .slice A L.length c] 26)).alloc (.cells #[.slice B K.length d, .slice D C.length f] 29)).alloc (.cells #[.int .i64 0, .slice none 0 0] 26)).alloc (.cells #[.slice none 0 0, .slice none 0 0] 29)) (w.heap.size + 1) 29 [.slice B K.length d, .slice D C.length f] := by simpa using (BoxAt.alloc (BoxAt.alloc (BoxAt.new (w.alloc (.cells #[.int .i64 m, .slice A L.length c] 26)) 29 [.slice B K.length d, .slice D C.length f]) (.cells #[.int .i64 0, .slice none 0 0] 26)) (.cells #[.slice none 0 0, .slice none 0 0] 29))
  have h3 : BoxAt ((((w.alloc (.cells #[.int .i64 m, .slice A L.length c] 26)).alloc (.cells #[.slice B K.length d, .slice D C.length f] 29)).alloc (.cells #[.int .i64 0, .slice none 0 0] 26)).alloc (.cells #[.slice none 0 0, .slice none 0 0] 29)) (w.heap.size + 1 + 1) 26 [.int .i64 0, .slice none 0 0] := by simpa using (BoxAt.alloc (BoxAt.new ((w.alloc (.cells #[.int .i64 m, .slice A L.length c] 26)).alloc (.cells #[.slice B K.length d, .slice D C.length f] 29)) 26 [.int .i64 0, .slice none 0 0]) (.cells #[.slice none 0 0, .slice none 0 0] 29))
  have h4 : BoxAt ((((w.alloc (.cells #[.int .i64 m, .slice A L.length c] 26)).alloc (.cells #[.slice B K.length d, .slice D C.length f] 29)).alloc (.cells #[.int .i64 0, .slice none 0 0] 26)).alloc (.cells #[.slice none 0 0, .slice none 0 0] 29)) (w.heap.size + 1 + 1 + 1) 29 [.slice none 0 0, .slice none 0 0] := by simpa using (BoxAt.new (((w.alloc (.cells #[.int .i64 m, .slice A L.length c] 26)).alloc (.cells #[.slice B K.length d, .slice D C.length f] 29)).alloc (.cells #[.int .i64 0, .slice none 0 0] 26)) 29 [.slice none 0 0, .slice none 0 0])
  have hs0 := (Same.alloc (Same.alloc (Same.alloc (Same.alloc (Same.refl w) (.cells #[.int .i64 m, .slice A L.length c] 26)) (.cells #[.slice B K.length d, .slice D C.length f] 29)) (.cells #[.int .i64 0, .slice none 0 0] 26)) (.cells #[.slice none 0 0, .slice none 0 0] 29))
  generalize ((((w.alloc (.cells #[.int .i64 m, .slice A L.length c] 26)).alloc (.cells #[.slice B K.length d, .slice D C.length f] 29)).alloc (.cells #[.int .i64 0, .slice none 0 0] 26)).alloc (.cells #[.slice none 0 0, .slice none 0 0] 29)) = w0 at *
  have n0 := hs0.size
  have n4 := h4.lt
  refine (l25Run_any m A c L _ hz (hA.same hs0) hnA).mono ?_
  rintro e w1 ⟨A1, c1, rfl, ho, hs1⟩
  have n1 := hs1.size
  have hb := BoxAt.new w1 26 [.int .i64 m, .slice A1 L.length c1]
  have hs2 := (Same.refl w1).alloc (.cells #[.int .i64 m, .slice A1 L.length c1] 26)
  have hsz2 : (w1.alloc (.cells #[.int .i64 m, .slice A1 L.length c1] 26)).heap.size = w1.heap.size + 1 := by simp
  have hlb : ∀ g, Value.ownBlock (.slice A1 L.length c1) = some g → w0.heap.size ≤ g ∧ g < w1.heap.size := fun g hg => owns_new ho g hg
  have hsx := hs1.trans hs2
  replace ho := ho.same hs2
  go_wp2
  generalize w1.alloc (.cells #[.int .i64 m, .slice A1 L.length c1] 26) = w2 at *
  clear hs1 hs2
  by_cases hgo : runOk m L = true ∧ 0 ≤ lost
  · obtain ⟨m1, hlo⟩ := hgo
    have HF := Lib.hid (show crash m L lost = mix L (L.map opn) lost.toNat by simp [crash, m1, hlo])
    have HM := Lib.hid m1
    clear m1
    obtain ⟨n, rfl⟩ := Int.eq_ofNat_of_zero_le hlo
    obtain ⟨T, hT⟩ : ∃ T, T = mix L (L.map opn) n := ⟨_, rfl⟩
    have HL := Lib.hid (show T.length = L.length by rw [hT]; exact mix_len2 (by simp))
    have HA := Lib.hid (show ∀ k x, L[k]? = some x → T[k]? = some (if n ≤ k then opn x else x) from fun k x hx => by rw [hT, mixmix hx])
    rw [Int.toNat_natCast, ← hT] at HF
    clear hT
    go_loopw [9] (fun i wr => ∃ k : Nat, k ≤ L.length ∧ i = .int .i64 k ∧ OwnItem wr w0.heap.size (.slice A1 L.length c1) (mix T L k) ∧ BoxAt wr w1.heap.size 26 [.int .i64 m, .slice A1 L.length c1] ∧ Same w0 wr) (fun i _ => L.length - (intOf i).toNat)
    case atStart => exact ⟨0, Nat.zero_le _, rfl, by rw [mix_zero]; exact ho, hb, hsx⟩
    case round =>
      obtain ⟨k, hk, rfl, hown, hb, hs⟩ := hrel
      clear ho hsx
      have s10 := (h1.same hs).cell 0 rfl
      have s11 := (h1.same hs).cell 1 rfl
      by_cases hlt : k < L.length
      · go_wp2_with fail
        refine (sRunOk_any m A c L _ hz' ((hA.same hs0).same hs)).mono ?_
        rintro e w3 ⟨rfl, hs3⟩
        replace hs := hs.trans hs3
        replace hown := hown.same hs3
        replace hb := hb.same hs3
        clear hs3 s10 s11
        rw [HM.out]
        have b1 := hb.cell 1 rfl
        obtain ⟨x, hx⟩ : ∃ x, L[k]? = some x := ⟨_, List.getElem?_eq_getElem hlt⟩
        have hxm := (mix_at (xs := T) HL.out hlt).trans hx
        obtain ⟨g, rfl, _⟩ := OwnR.at_ cItem_len hown hxm
        obtain ⟨_, _, hd, hf⟩ := OwnR.atg cItem_len hown hxm
        have HXM := Lib.hid hxm
        have hgb := hlb g rfl
        by_cases hnk : n ≤ k
        · have HX := Lib.hid (show T[k]? = some (opn x) by rw [HA.out k x hx, if_pos hnk])
          clear hx hxm hlb
          obtain ⟨f0, f1, f2⟩ := x
          have d2 := hd 2 _ rfl
          have e2 := hf (k * 3 + 2)
          clear hd hf
          have hst := OwnR.setc cItem_len hown (k := k) (j := 2) (x := (f0, f1, f2)) (y := (f0, f1, 0)) (u := .int .i64 0) HXM.out (by decide) rfl
          have hss := hs.grown hst.2 (by intro g' hg'; injection hg' with hg'; omega)
          have hbb := (hst.2.block _ hb.lt (by intro e; injection e with e; omega)).trans hb
          have HOWN := Lib.hid (show OwnItem _ _ _ (mix T L (k + 1)) by rw [← mix_set (x := (f0, f1, 0)) HX.out HL.out]; exact hst.1)
          have HB := Lib.hid hbb
          clear hst hown
          go_wp2
          go_roundw
          case rel => exact ⟨k + 1, hlt, by go_num, HOWN.out, HB.out, hss⟩
          case measure => simp [intOf]; omega
        · have HX := Lib.hid (show T[k]? = some x by rw [HA.out k x hx, if_neg hnk])
          have hnk' : (k : Int) < (n : Int) := by omega
          have HOWN := Lib.hid (show OwnItem _ _ _ (mix T L (k + 1)) by rw [← mix_set (x := x) HX.out HL.out, set_same HXM.out]; exact hown)
          clear hx hxm hlb hd hf hown b1
          go_wp2
          go_roundw
          case rel => exact ⟨k + 1, hlt, by go_num, HOWN.out, hb, hs⟩
          case measure => simp [intOf]; omega
      · have hkl : k = L.length := by omega
        rw [mix_full _ _ (by rw [HL.out]; exact hkl) HL.out] at hown
        have HLT := Lib.hid (show OwnItem wr w0.heap.size (.slice A1 T.length c1) T by rw [HL.out]; exact hown)
        have HB := Lib.hid (show BoxAt wr w1.heap.size 26 [.int .i64 m, .slice A1 T.length c1] by rw [HL.out]; exact hb)
        clear hown hlb
        have HOWN := HLT.out
        go_wp2_with fail
        replace hb := HB.out
        clear s10 s11
        have nq := Same.size hs
        have b0 := hb.cell 0 rfl
        have b1 := hb.cell 1 rfl
        have s20 := (h2.same hs).cell 0 rfl
        have s21 := (h2.same hs).cell 1 rfl
        have nlt := hb.lt
        go_wp2_with fail
        go_region_held3 (fun x => x.cell? ⟨w1.heap.size, 0, none⟩ = some (.int .i64 m) ∧ x.cell? ⟨w1.heap.size, 1, none⟩ = some (.slice A1 T.length c1) ∧ x.cell? ⟨w.heap.size + 1, 0, none⟩ = some (.slice B K.length d) ∧ x.cell? ⟨w.heap.size + 1, 1, none⟩ = some (.slice D C.length f))
          (first | (with_reducible exact ⟨qb0, qb1, q20, q21⟩) | (with_reducible exact ⟨pb0, pb1, p20, p21⟩) | (with_reducible exact ⟨kb0, kb1, k20, k21⟩) | exact ⟨b0, b1, s20, s21⟩)
          ((go_at_call 74; refine (l25Copy_any B d K D f C _ hzK hnB ((hB.same hs0).same (hs.trans (Same.refl _).drew)) hzC hnD ((hD.same hs0).same (hs.trans (Same.refl _).drew))).mono ?_; rintro e w9 ⟨AK, cK, AC, cC, rfl, hoK, hoC, spq, hs9⟩; (have hsd := (Same.refl _).drew.trans hs9); (have kb := hb.same hsd); (have k2 := (h2.same hs).same hsd); (have k3 := (h3.same hs).same hsd); (have k4 := (h4.same hs).same hsd); (have x30 := k3.cell 0 rfl); (have x31 := k3.cell 1 rfl); (have y30 := k3.frozen 0); (have y31 := k3.frozen 1); (have x40 := k4.cell 0 rfl); (have x41 := k4.cell 1 rfl); (have y40 := k4.frozen 0); (have y41 := k4.frozen 1); (have kb0 := kb.cell 0 rfl); (have kb1 := kb.cell 1 rfl); (have k20 := k2.cell 0 rfl); (have k21 := k2.cell 1 rfl); (have pb := (kb.other (k := w.heap.size + 1 + 1) (j := 0) (.int .i64 m) (by omega)).other (k := w.heap.size + 1 + 1) (j := 1) (.slice A1 T.length c1) (by omega)); (have p2 := (k2.other (k := w.heap.size + 1 + 1) (j := 0) (.int .i64 m) (by omega)).other (k := w.heap.size + 1 + 1) (j := 1) (.slice A1 T.length c1) (by omega)); (have pb0 := pb.cell 0 rfl); (have pb1 := pb.cell 1 rfl); (have p20 := p2.cell 0 rfl); (have p21 := p2.cell 1 rfl); (have qb := (pb.other (k := w.heap.size + 1 + 1 + 1) (j := 0) (.slice AK K.length cK) (by omega)).other (k := w.heap.size + 1 + 1 + 1) (j := 1) (.slice AC C.length cC) (by omega)); (have q2 := (p2.other (k := w.heap.size + 1 + 1 + 1) (j := 0) (.slice AK K.length cK) (by omega)).other (k := w.heap.size + 1 + 1 + 1) (j := 1) (.slice AC C.length cC) (by omega)); (have qb0 := qb.cell 0 rfl); (have qb1 := qb.cell 1 rfl); (have q20 := q2.cell 0 rfl); (have q21 := q2.cell 1 rfl)))
        have nq9 : _ ≤ w9.heap.size := hs9.size
        have F := laid4 (w := w) k3 k4 (by omega) (base := w0.heap.size) (by omega) (by omega) (by omega) (by omega) ((hs0.trans hs).trans hsd) (HOWN.same hsd) (hoK.base (by first | exact nq | simpa using nq)) (hoC.base (by first | exact nq | simpa using nq)) (.int .i64 m) (.slice A1 T.length c1) (.slice AK K.length cK) (.slice AC C.length cC)
        have sa := Sep.new HOWN hoK (by first | exact Nat.le_refl _ | simp)
        have sb := Sep.new HOWN hoC (by first | exact Nat.le_refl _ | simp)
        clear kb k2 k3 k4 pb p2 qb q2 kb0 kb1 k20 k21 pb0 pb1 p20 p21 qb0 qb1 q20 q21 x30 x31 x40 x41 y30 y31 y40 y41 b0 b1 s20 s21
        have F0 := F.run.cell 0 rfl
        have F1 := F.run.cell 1 rfl
        have F2 := F.bank.cell 0 rfl
        have F3 := F.bank.cell 1 rfl
        unfold lay4 at F0 F1 F2 F3
        go_wp2
        show bodyPost _ _ _ _ _ _
        rw [HF.out]
        exact bodyPost_ret (v := .tuple #[.agg #[.int .i64 m, .slice A1 T.length c1], .agg #[.slice AK K.length cK, .slice AC C.length cC]]) (by simp [results, Try.results46, go_sem, F0, F1, F2, F3]) rfl ⟨_, _, _, _, _, _, rfl, F.items.rebase n0, F.keys.base n0, F.cents.base n0, sa, sb, spq, F.same⟩
  · have HF := Lib.hid (show crash m L lost = L by rw [crash, if_neg (by simpa using hgo)])
    have HG := Lib.hid hgo
    clear hgo
    go_loopw [9] (fun i wr => i = .int .i64 0 ∧ OwnItem wr w0.heap.size (.slice A1 L.length c1) L ∧ BoxAt wr w1.heap.size 26 [.int .i64 m, .slice A1 L.length c1] ∧ Same w0 wr) (fun _ _ => 0)
    case atStart => exact ⟨rfl, ho, hb, hsx⟩
    case round =>
      obtain ⟨rfl, hown, hb, hs⟩ := hrel
      clear ho hsx
      have s10 := (h1.same hs).cell 0 rfl
      have s11 := (h1.same hs).cell 1 rfl
      by_cases hlt : 0 < L.length
      · go_wp2_with fail
        refine (sRunOk_any m A c L _ hz' ((hA.same hs0).same hs)).mono ?_
        rintro e w3 ⟨rfl, hs3⟩
        replace hs := hs.trans hs3
        replace hown := hown.same hs3
        replace hb := hb.same hs3
        clear hs3 s10 s11
        cases m1 : runOk m L
        · go_wp2_with fail
          have nq := Same.size hs
          have b0 := hb.cell 0 rfl
          have b1 := hb.cell 1 rfl
          have s20 := (h2.same hs).cell 0 rfl
          have s21 := (h2.same hs).cell 1 rfl
          have nlt := hb.lt
          go_wp2_with fail
          go_region_held3 (fun x => x.cell? ⟨w1.heap.size, 0, none⟩ = some (.int .i64 m) ∧ x.cell? ⟨w1.heap.size, 1, none⟩ = some (.slice A1 L.length c1) ∧ x.cell? ⟨w.heap.size + 1, 0, none⟩ = some (.slice B K.length d) ∧ x.cell? ⟨w.heap.size + 1, 1, none⟩ = some (.slice D C.length f))
            (first | (with_reducible exact ⟨qb0, qb1, q20, q21⟩) | (with_reducible exact ⟨pb0, pb1, p20, p21⟩) | (with_reducible exact ⟨kb0, kb1, k20, k21⟩) | exact ⟨b0, b1, s20, s21⟩)
            ((go_at_call 74; refine (l25Copy_any B d K D f C _ hzK hnB ((hB.same hs0).same (hs.trans (Same.refl _).drew)) hzC hnD ((hD.same hs0).same (hs.trans (Same.refl _).drew))).mono ?_; rintro e w9 ⟨AK, cK, AC, cC, rfl, hoK, hoC, spq, hs9⟩; (have hsd := (Same.refl _).drew.trans hs9); (have kb := hb.same hsd); (have k2 := (h2.same hs).same hsd); (have k3 := (h3.same hs).same hsd); (have k4 := (h4.same hs).same hsd); (have x30 := k3.cell 0 rfl); (have x31 := k3.cell 1 rfl); (have y30 := k3.frozen 0); (have y31 := k3.frozen 1); (have x40 := k4.cell 0 rfl); (have x41 := k4.cell 1 rfl); (have y40 := k4.frozen 0); (have y41 := k4.frozen 1); (have kb0 := kb.cell 0 rfl); (have kb1 := kb.cell 1 rfl); (have k20 := k2.cell 0 rfl); (have k21 := k2.cell 1 rfl); (have pb := (kb.other (k := w.heap.size + 1 + 1) (j := 0) (.int .i64 m) (by omega)).other (k := w.heap.size + 1 + 1) (j := 1) (.slice A1 L.length c1) (by omega)); (have p2 := (k2.other (k := w.heap.size + 1 + 1) (j := 0) (.int .i64 m) (by omega)).other (k := w.heap.size + 1 + 1) (j := 1) (.slice A1 L.length c1) (by omega)); (have pb0 := pb.cell 0 rfl); (have pb1 := pb.cell 1 rfl); (have p20 := p2.cell 0 rfl); (have p21 := p2.cell 1 rfl); (have qb := (pb.other (k := w.heap.size + 1 + 1 + 1) (j := 0) (.slice AK K.length cK) (by omega)).other (k := w.heap.size + 1 + 1 + 1) (j := 1) (.slice AC C.length cC) (by omega)); (have q2 := (p2.other (k := w.heap.size + 1 + 1 + 1) (j := 0) (.slice AK K.length cK) (by omega)).other (k := w.heap.size + 1 + 1 + 1) (j := 1) (.slice AC C.length cC) (by omega)); (have qb0 := qb.cell 0 rfl); (have qb1 := qb.cell 1 rfl); (have q20 := q2.cell 0 rfl); (have q21 := q2.cell 1 rfl)))
          have nq9 : _ ≤ w9.heap.size := hs9.size
          have F := laid4 (w := w) k3 k4 (by omega) (base := w0.heap.size) (by omega) (by omega) (by omega) (by omega) ((hs0.trans hs).trans hsd) (hown.same hsd) (hoK.base (by first | exact nq | simpa using nq)) (hoC.base (by first | exact nq | simpa using nq)) (.int .i64 m) (.slice A1 L.length c1) (.slice AK K.length cK) (.slice AC C.length cC)
          have sa := Sep.new hown hoK (by first | exact Nat.le_refl _ | simp)
          have sb := Sep.new hown hoC (by first | exact Nat.le_refl _ | simp)
          clear kb k2 k3 k4 pb p2 qb q2 kb0 kb1 k20 k21 pb0 pb1 p20 p21 qb0 qb1 q20 q21 x30 x31 x40 x41 y30 y31 y40 y41 b0 b1 s20 s21
          have F0 := F.run.cell 0 rfl
          have F1 := F.run.cell 1 rfl
          have F2 := F.bank.cell 0 rfl
          have F3 := F.bank.cell 1 rfl
          unfold lay4 at F0 F1 F2 F3
          go_wp2
          show bodyPost _ _ _ _ _ _
          rw [HF.out]
          exact bodyPost_ret (v := .tuple #[.agg #[.int .i64 m, .slice A1 L.length c1], .agg #[.slice AK K.length cK, .slice AC C.length cC]]) (by simp [results, Try.results46, go_sem, F0, F1, F2, F3]) rfl ⟨_, _, _, _, _, _, rfl, F.items.rebase n0, F.keys.base n0, F.cents.base n0, sa, sb, spq, F.same⟩
        · have hlo : lost < 0 := by
            have := HG.out; rw [m1] at this; simp at this; omega
          go_wp2_with fail
          have nq := Same.size hs
          have b0 := hb.cell 0 rfl
          have b1 := hb.cell 1 rfl
          have s20 := (h2.same hs).cell 0 rfl
          have s21 := (h2.same hs).cell 1 rfl
          have nlt := hb.lt
          go_wp2_with fail
          go_region_held3 (fun x => x.cell? ⟨w1.heap.size, 0, none⟩ = some (.int .i64 m) ∧ x.cell? ⟨w1.heap.size, 1, none⟩ = some (.slice A1 L.length c1) ∧ x.cell? ⟨w.heap.size + 1, 0, none⟩ = some (.slice B K.length d) ∧ x.cell? ⟨w.heap.size + 1, 1, none⟩ = some (.slice D C.length f))
            (first | (with_reducible exact ⟨qb0, qb1, q20, q21⟩) | (with_reducible exact ⟨pb0, pb1, p20, p21⟩) | (with_reducible exact ⟨kb0, kb1, k20, k21⟩) | exact ⟨b0, b1, s20, s21⟩)
            ((go_at_call 74; refine (l25Copy_any B d K D f C _ hzK hnB ((hB.same hs0).same (hs.trans (Same.refl _).drew)) hzC hnD ((hD.same hs0).same (hs.trans (Same.refl _).drew))).mono ?_; rintro e w9 ⟨AK, cK, AC, cC, rfl, hoK, hoC, spq, hs9⟩; (have hsd := (Same.refl _).drew.trans hs9); (have kb := hb.same hsd); (have k2 := (h2.same hs).same hsd); (have k3 := (h3.same hs).same hsd); (have k4 := (h4.same hs).same hsd); (have x30 := k3.cell 0 rfl); (have x31 := k3.cell 1 rfl); (have y30 := k3.frozen 0); (have y31 := k3.frozen 1); (have x40 := k4.cell 0 rfl); (have x41 := k4.cell 1 rfl); (have y40 := k4.frozen 0); (have y41 := k4.frozen 1); (have kb0 := kb.cell 0 rfl); (have kb1 := kb.cell 1 rfl); (have k20 := k2.cell 0 rfl); (have k21 := k2.cell 1 rfl); (have pb := (kb.other (k := w.heap.size + 1 + 1) (j := 0) (.int .i64 m) (by omega)).other (k := w.heap.size + 1 + 1) (j := 1) (.slice A1 L.length c1) (by omega)); (have p2 := (k2.other (k := w.heap.size + 1 + 1) (j := 0) (.int .i64 m) (by omega)).other (k := w.heap.size + 1 + 1) (j := 1) (.slice A1 L.length c1) (by omega)); (have pb0 := pb.cell 0 rfl); (have pb1 := pb.cell 1 rfl); (have p20 := p2.cell 0 rfl); (have p21 := p2.cell 1 rfl); (have qb := (pb.other (k := w.heap.size + 1 + 1 + 1) (j := 0) (.slice AK K.length cK) (by omega)).other (k := w.heap.size + 1 + 1 + 1) (j := 1) (.slice AC C.length cC) (by omega)); (have q2 := (p2.other (k := w.heap.size + 1 + 1 + 1) (j := 0) (.slice AK K.length cK) (by omega)).other (k := w.heap.size + 1 + 1 + 1) (j := 1) (.slice AC C.length cC) (by omega)); (have qb0 := qb.cell 0 rfl); (have qb1 := qb.cell 1 rfl); (have q20 := q2.cell 0 rfl); (have q21 := q2.cell 1 rfl)))
          have nq9 : _ ≤ w9.heap.size := hs9.size
          have F := laid4 (w := w) k3 k4 (by omega) (base := w0.heap.size) (by omega) (by omega) (by omega) (by omega) ((hs0.trans hs).trans hsd) (hown.same hsd) (hoK.base (by first | exact nq | simpa using nq)) (hoC.base (by first | exact nq | simpa using nq)) (.int .i64 m) (.slice A1 L.length c1) (.slice AK K.length cK) (.slice AC C.length cC)
          have sa := Sep.new hown hoK (by first | exact Nat.le_refl _ | simp)
          have sb := Sep.new hown hoC (by first | exact Nat.le_refl _ | simp)
          clear kb k2 k3 k4 pb p2 qb q2 kb0 kb1 k20 k21 pb0 pb1 p20 p21 qb0 qb1 q20 q21 x30 x31 x40 x41 y30 y31 y40 y41 b0 b1 s20 s21
          have F0 := F.run.cell 0 rfl
          have F1 := F.run.cell 1 rfl
          have F2 := F.bank.cell 0 rfl
          have F3 := F.bank.cell 1 rfl
          unfold lay4 at F0 F1 F2 F3
          go_wp2
          show bodyPost _ _ _ _ _ _
          rw [HF.out]
          exact bodyPost_ret (v := .tuple #[.agg #[.int .i64 m, .slice A1 L.length c1], .agg #[.slice AK K.length cK, .slice AC C.length cC]]) (by simp [results, Try.results46, go_sem, F0, F1, F2, F3]) rfl ⟨_, _, _, _, _, _, rfl, F.items.rebase n0, F.keys.base n0, F.cents.base n0, sa, sb, spq, F.same⟩
      · go_wp2_with fail
        clear s10 s11
        have nq := Same.size hs
        have b0 := hb.cell 0 rfl
        have b1 := hb.cell 1 rfl
        have s20 := (h2.same hs).cell 0 rfl
        have s21 := (h2.same hs).cell 1 rfl
        have nlt := hb.lt
        go_wp2_with fail
        go_region_held3 (fun x => x.cell? ⟨w1.heap.size, 0, none⟩ = some (.int .i64 m) ∧ x.cell? ⟨w1.heap.size, 1, none⟩ = some (.slice A1 L.length c1) ∧ x.cell? ⟨w.heap.size + 1, 0, none⟩ = some (.slice B K.length d) ∧ x.cell? ⟨w.heap.size + 1, 1, none⟩ = some (.slice D C.length f))
          (first | (with_reducible exact ⟨qb0, qb1, q20, q21⟩) | (with_reducible exact ⟨pb0, pb1, p20, p21⟩) | (with_reducible exact ⟨kb0, kb1, k20, k21⟩) | exact ⟨b0, b1, s20, s21⟩)
          ((go_at_call 74; refine (l25Copy_any B d K D f C _ hzK hnB ((hB.same hs0).same (hs.trans (Same.refl _).drew)) hzC hnD ((hD.same hs0).same (hs.trans (Same.refl _).drew))).mono ?_; rintro e w9 ⟨AK, cK, AC, cC, rfl, hoK, hoC, spq, hs9⟩; (have hsd := (Same.refl _).drew.trans hs9); (have kb := hb.same hsd); (have k2 := (h2.same hs).same hsd); (have k3 := (h3.same hs).same hsd); (have k4 := (h4.same hs).same hsd); (have x30 := k3.cell 0 rfl); (have x31 := k3.cell 1 rfl); (have y30 := k3.frozen 0); (have y31 := k3.frozen 1); (have x40 := k4.cell 0 rfl); (have x41 := k4.cell 1 rfl); (have y40 := k4.frozen 0); (have y41 := k4.frozen 1); (have kb0 := kb.cell 0 rfl); (have kb1 := kb.cell 1 rfl); (have k20 := k2.cell 0 rfl); (have k21 := k2.cell 1 rfl); (have pb := (kb.other (k := w.heap.size + 1 + 1) (j := 0) (.int .i64 m) (by omega)).other (k := w.heap.size + 1 + 1) (j := 1) (.slice A1 L.length c1) (by omega)); (have p2 := (k2.other (k := w.heap.size + 1 + 1) (j := 0) (.int .i64 m) (by omega)).other (k := w.heap.size + 1 + 1) (j := 1) (.slice A1 L.length c1) (by omega)); (have pb0 := pb.cell 0 rfl); (have pb1 := pb.cell 1 rfl); (have p20 := p2.cell 0 rfl); (have p21 := p2.cell 1 rfl); (have qb := (pb.other (k := w.heap.size + 1 + 1 + 1) (j := 0) (.slice AK K.length cK) (by omega)).other (k := w.heap.size + 1 + 1 + 1) (j := 1) (.slice AC C.length cC) (by omega)); (have q2 := (p2.other (k := w.heap.size + 1 + 1 + 1) (j := 0) (.slice AK K.length cK) (by omega)).other (k := w.heap.size + 1 + 1 + 1) (j := 1) (.slice AC C.length cC) (by omega)); (have qb0 := qb.cell 0 rfl); (have qb1 := qb.cell 1 rfl); (have q20 := q2.cell 0 rfl); (have q21 := q2.cell 1 rfl)))
        have nq9 : _ ≤ w9.heap.size := hs9.size
        have F := laid4 (w := w) k3 k4 (by omega) (base := w0.heap.size) (by omega) (by omega) (by omega) (by omega) ((hs0.trans hs).trans hsd) (hown.same hsd) (hoK.base (by first | exact nq | simpa using nq)) (hoC.base (by first | exact nq | simpa using nq)) (.int .i64 m) (.slice A1 L.length c1) (.slice AK K.length cK) (.slice AC C.length cC)
        have sa := Sep.new hown hoK (by first | exact Nat.le_refl _ | simp)
        have sb := Sep.new hown hoC (by first | exact Nat.le_refl _ | simp)
        clear kb k2 k3 k4 pb p2 qb q2 kb0 kb1 k20 k21 pb0 pb1 p20 p21 qb0 qb1 q20 q21 x30 x31 x40 x41 y30 y31 y40 y41 b0 b1 s20 s21
        have F0 := F.run.cell 0 rfl
        have F1 := F.run.cell 1 rfl
        have F2 := F.bank.cell 0 rfl
        have F3 := F.bank.cell 1 rfl
        unfold lay4 at F0 F1 F2 F3
        go_wp2
        show bodyPost _ _ _ _ _ _
        rw [HF.out]
        exact bodyPost_ret (v := .tuple #[.agg #[.int .i64 m, .slice A1 L.length c1], .agg #[.slice AK K.length cK, .slice AC C.length cC]]) (by simp [results, Try.results46, go_sem, F0, F1, F2, F3]) rfl ⟨_, _, _, _, _, _, rfl, F.items.rebase n0, F.keys.base n0, F.cents.base n0, sa, sb, spq, F.same⟩
end Go.Proofs.Ytccgbilgfnoheaa
