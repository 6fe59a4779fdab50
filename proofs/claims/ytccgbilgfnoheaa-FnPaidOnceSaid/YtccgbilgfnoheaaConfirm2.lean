/-
  The contracts of Confirm.
-/
import Derived.Test.YtccgbilgfnoheaaConfirm
namespace Go.Proofs.Ytccgbilgfnoheaa
open Go.RowKit

theorem mix_at {α : Type} {xs zs : List α} {k : Nat} (hl : xs.length = zs.length) (hk : k < zs.length) : (mix xs zs k)[k]? = zs[k]? := by
  rw [mix, List.getElem?_append_right (by simp; omega)]
  simp [hl, Nat.min_eq_left (Nat.le_of_lt hk)]
def conf (m : Int) (K : List Int) (x : TItem) : TItem := (x.1, x.2.1, if hasK K (m * 1000 + x.1) = true then 2 else 0)
def confirm (m : Int) (L : List TItem) (K C : List Int) : List TItem := if (runOk m L && bankOk K C) = true then L.map (conf m K) else L
theorem confirm_len (m : Int) (L : List TItem) (K C : List Int) : (confirm m L K C).length = L.length := by
  unfold confirm; split <;> simp
theorem runOk_and {m : Int} {L : List TItem} (h : runOk m L = true) : (∀ k x, L[k]? = some x → itemOk x = true ∧ hasM (L.take k) x.1 = false) ∧ (0 ≤ m ∧ m ≤ 3599) ∧ L.length ≤ 40 := by
  rw [runOk, Bool.and_eq_true, Bool.and_eq_true, inB_iff, decide_eq_true_eq] at h
  refine ⟨fun k x hx => ?_, h.1.2, h.2⟩
  have := allTo_iff.1 h.1.1 k (List.getElem?_eq_some_iff.1 hx).1
  rw [itemAt_eq hx, Bool.and_eq_true] at this
  simpa using this
theorem itemOk_iff {x : TItem} : itemOk x = true ↔ (1 ≤ x.1 ∧ x.1 ≤ 999) ∧ (0 ≤ x.2.1 ∧ x.2.1 ≤ 10000000) ∧ 0 ≤ x.2.2 ∧ x.2.2 ≤ 2 := by
  simp only [itemOk, Bool.and_eq_true, inB_iff, and_assoc]

set_option maxHeartbeats 4000000 in
theorem iConfirm_any (m : Int) (A : Option Addr) (c : Nat) (L : List TItem) (B : Option Addr) (d : Nat) (K : List Int) (D : Option Addr) (f : Nat) (C : List Int) (w : World)
    (hz : L.length ≤ 1000000000) (hcap : L.length ≤ c) (hA : AtItem w A L) (hzK : K.length ≤ 9223372036854775807) (hB : IntsAt w B K) (hwK : Wide K) (hzC : C.length ≤ 9223372036854775807) (hD : IntsAt w D C) :
    Calls Try.prog 20 #[.agg #[.int .i64 m, .slice A L.length c], .agg #[.slice B K.length d, .slice D C.length f]] w (RetRun w m (confirm m L K C)) := by
  have hz' : L.length ≤ 9223372036854775807 := by omega
  go_enter Try.func20, Try.ntmps20
  go_wp2_with fail
  have h1 : BoxAt (((w.alloc (.cells #[.int .i64 m, .slice A L.length c] 26)).alloc (.cells #[.slice B K.length d, .slice D C.length f] 29)).alloc (.cells #[.int .i64 0, .slice none 0 0] 26)) (w.heap.size) 26 [.int .i64 m, .slice A L.length c] := by simpa using (BoxAt.alloc (BoxAt.alloc (BoxAt.new w 26 [.int .i64 m, .slice A L.length c]) (.cells #[.slice B K.length d, .slice D C.length f] 29)) (.cells #[.int .i64 0, .slice none 0 0] 26))
  have h2 : BoxAt (((w.alloc (.cells #[.int .i64 m, .slice A L.length c] 26)).alloc (.cells #[.slice B K.length d, .slice D C.length f] 29)).alloc (.cells #[.int .i64 0, .slice none 0 0] 26)) (w.heap.size + 1) 29 [.slice B K.length d, .slice D C.length f] := by simpa using (BoxAt.alloc (BoxAt.new (w.alloc (.cells #[.int .i64 m, .slice A L.length c] 26)) 29 [.slice B K.length d, .slice D C.length f]) (.cells #[.int .i64 0, .slice none 0 0] 26))
  have h3 : BoxAt (((w.alloc (.cells #[.int .i64 m, .slice A L.length c] 26)).alloc (.cells #[.slice B K.length d, .slice D C.length f] 29)).alloc (.cells #[.int .i64 0, .slice none 0 0] 26)) (w.heap.size + 1 + 1) 26 [.int .i64 0, .slice none 0 0] := by simpa using (BoxAt.new ((w.alloc (.cells #[.int .i64 m, .slice A L.length c] 26)).alloc (.cells #[.slice B K.length d, .slice D C.length f] 29)) 26 [.int .i64 0, .slice none 0 0])
  have hs0 := (Same.alloc (Same.alloc (Same.alloc (Same.refl w) (.cells #[.int .i64 m, .slice A L.length c] 26)) (.cells #[.slice B K.length d, .slice D C.length f] 29)) (.cells #[.int .i64 0, .slice none 0 0] 26))
  generalize (((w.alloc (.cells #[.int .i64 m, .slice A L.length c] 26)).alloc (.cells #[.slice B K.length d, .slice D C.length f] 29)).alloc (.cells #[.int .i64 0, .slice none 0 0] 26)) = w0 at *
  refine (copyRun_any m A c L _ hz (hA.same hs0)).mono ?_
  rintro e w1 ⟨A1, c1, rfl, ho, hs1⟩
  have n0 := hs0.size
  have n1 := hs1.size
  have n3 := h3.lt
  have hb := BoxAt.new w1 26 [.int .i64 m, .slice A1 L.length c1]
  have hs2 := (Same.refl w1).alloc (.cells #[.int .i64 m, .slice A1 L.length c1] 26)
  have hsz2 : (w1.alloc (.cells #[.int .i64 m, .slice A1 L.length c1] 26)).heap.size = w1.heap.size + 1 := by simp
  have hlb : ∀ g, Value.ownBlock (.slice A1 L.length c1) = some g → w0.heap.size ≤ g ∧ g < w1.heap.size := fun g hg => owns_new ho g hg
  have hsx := hs1.trans hs2
  replace ho := ho.same hs2
  have hq1 := h1.same hsx
  have r0 := hq1.cell 0 rfl
  have r1 := hq1.cell 1 rfl
  go_wp2_with fail
  generalize w1.alloc (.cells #[.int .i64 m, .slice A1 L.length c1] 26) = w2 at *
  clear hs1 hs2
  refine (iRunOk_any m A c L _ hz' hcap ((hA.same hs0).same hsx)).mono ?_
  rintro e w3 ⟨rfl, hs3⟩
  replace hsx := hsx.trans hs3
  replace ho := ho.same hs3
  replace hb := hb.same hs3
  have q20 := (h2.same hsx).cell 0 rfl
  have q21 := (h2.same hsx).cell 1 rfl
  have n4 := hs3.size
  clear hs3 r0 r1 hq1
  cases m1 : runOk m L
  · have HF := Lib.hid (show confirm m L K C = L by simp [confirm, m1])
    have k3 := h3.same hsx
    have x30 := k3.cell 0 rfl
    have x31 := k3.cell 1 rfl
    have y30 := k3.frozen 0
    have y31 := k3.frozen 1
    have b0 := hb.cell 0 rfl
    have b1 := hb.cell 1 rfl
    have k4 := (k3.set 0 (.int .i64 m)).set 1 (.slice A1 L.length c1)
    have cf0 := k4.cell 0 rfl
    have cf1 := k4.cell 1 rfl
    have zo := ho.zn
    go_wp2
    rw [HF.out]
    exact bodyPost_ret (v := .agg #[.int .i64 m, .slice A1 L.length c1]) (by simp [results, Try.results20, go_sem, cf0, cf1]) rfl ⟨_, _, rfl,
      (((ho.rebase n0).upd (upd_setCell _ _ _ _) zo (.inr (by omega))).upd (upd_setCell _ _ _ _) zo (.inr (by omega))), ((hs0.trans hsx).setCell (by simp; omega) _).setCell (by simp; omega) _⟩
  · go_wp2_with fail
    refine (iBankOk_any B D d f K C _ hzK hzC hwK ((hB.same hs0).same hsx) ((hD.same hs0).same hsx)).mono ?_
    rintro e w4 ⟨rfl, hs4⟩
    replace hsx := hsx.trans hs4
    replace ho := ho.same hs4
    replace hb := hb.same hs4
    have n5 := hs4.size
    clear hs4 q20 q21
    cases m2 : bankOk K C
    · have HF := Lib.hid (show confirm m L K C = L by simp [confirm, m2])
      have k3 := h3.same hsx
      have x30 := k3.cell 0 rfl
      have x31 := k3.cell 1 rfl
      have y30 := k3.frozen 0
      have y31 := k3.frozen 1
      have b0 := hb.cell 0 rfl
      have b1 := hb.cell 1 rfl
      have k4 := (k3.set 0 (.int .i64 m)).set 1 (.slice A1 L.length c1)
      have cf0 := k4.cell 0 rfl
      have cf1 := k4.cell 1 rfl
      have zo := ho.zn
      go_wp2
      rw [HF.out]
      exact bodyPost_ret (v := .agg #[.int .i64 m, .slice A1 L.length c1]) (by simp [results, Try.results20, go_sem, cf0, cf1]) rfl ⟨_, _, rfl,
        (((ho.rebase n0).upd (upd_setCell _ _ _ _) zo (.inr (by omega))).upd (upd_setCell _ _ _ _) zo (.inr (by omega))), ((hs0.trans hsx).setCell (by simp; omega) _).setCell (by simp; omega) _⟩
    · have HF := Lib.hid (show confirm m L K C = L.map (conf m K) by simp [confirm, m1, m2])
      have HR := Lib.hid (runOk_and m1)
      have hlen := HR.out.2.2
      have hmo := HR.out.2.1
      have b1 := hb.cell 1 rfl
      clear m1 m2
      go_wp2
      clear b1
      go_loopw [21] (fun i wr => ∃ k : Nat, k ≤ L.length ∧ i = .int .i64 k ∧ OwnItem wr w0.heap.size (.slice A1 L.length c1) (mix (L.map (conf m K)) L k) ∧ BoxAt wr w1.heap.size 26 [.int .i64 m, .slice A1 L.length c1] ∧ Same w0 wr) (fun i _ => L.length - (intOf i).toNat)
      case atStart => exact ⟨0, Nat.zero_le _, rfl, by rw [mix_zero]; exact ho, hb, hsx⟩
      case round =>
        obtain ⟨k, hk, rfl, hown, hb, hs⟩ := hrel
        clear ho hsx
        have b1 := hb.cell 1 rfl
        by_cases hlt : k < L.length
        · obtain ⟨x, hx⟩ : ∃ x, L[k]? = some x := ⟨_, List.getElem?_eq_getElem hlt⟩
          have hxm := (mix_at (xs := L.map (conf m K)) (by simp) hlt).trans hx
          obtain ⟨g, rfl, _⟩ := OwnR.at_ cItem_len hown hxm
          obtain ⟨_, _, hd, hf⟩ := OwnR.atg cItem_len hown hxm
          have hok := itemOk_iff.1 (HR.out.1 k x hx).1
          have HX := Lib.hid hx
          have HXM := Lib.hid hxm
          have hgb := hlb g rfl
          clear hx hxm hlb
          obtain ⟨f0, f1, f2⟩ := x
          dsimp only at hok
          have d2 := hd 2 _ rfl
          have e2 := hf (k * 3 + 2)
          clear hd hf
          have hst := OwnR.setc cItem_len hown (k := k) (j := 2) (x := (f0, f1, f2)) (y := (f0, f1, 0)) (u := .int .i64 0) HXM.out (by decide) rfl
          have hss := hs.grown hst.2 (by intro g' hg'; injection hg' with hg'; omega)
          have hbb := (hst.2.block _ hb.lt (by intro e; injection e with e; omega)).trans hb
          have HOWN := Lib.hid hst.1
          have HB := Lib.hid hbb
          clear hst hown
          have s20 := (h2.same hss).cell 0 rfl
          have s10 := (h1.same hss).cell 0 rfl
          have s11 := (h1.same hss).cell 1 rfl
          go_wp2
          generalize hwg : wr.setCell ⟨g, k * 3 + 2, none⟩ (.int .i64 0) = w5 at *
          clear hwg
          have HXO := Lib.hid HX.out
          go_region_held3 (fun w' => Same w0 w' ∧ w'.cell? ⟨w.heap.size + 1, 0, none⟩ = some (.slice B K.length d) ∧ w'.cell? ⟨w.heap.size, 0, none⟩ = some (.int .i64 m) ∧ w'.cell? ⟨w.heap.size, 1, none⟩ = some (.slice A L.length c))
            (first | exact ⟨hss, s20, s10, s11⟩ | exact ⟨hss.drew, s20, s10, s11⟩ | exact ⟨hss.drew.trans hs8, (h2.same (hss.drew.trans hs8)).cell 0 rfl, (h1.same (hss.drew.trans hs8)).cell 0 rfl, (h1.same (hss.drew.trans hs8)).cell 1 rfl⟩ | exact ⟨(hss.drew.trans hs8).trans hs9, (h2.same ((hss.drew.trans hs8).trans hs9)).cell 0 rfl, (h1.same ((hss.drew.trans hs8).trans hs9)).cell 0 rfl, (h1.same ((hss.drew.trans hs8).trans hs9)).cell 1 rfl⟩)
            (first
              | (go_at_call 56; refine (keyOf_any m A c L k (f0, f1, f2) _ hz' ((hA.same hs0).same hss.drew) HX.out hmo hok.1).mono ?_; rintro e w8 ⟨rfl, hs8⟩)
              | (go_at_call 55; refine (contains_any B d K (m * 1000 + f0) _ hzK ((hB.same hs0).same (hss.drew.trans hs8))).mono ?_; rintro e w9 ⟨rfl, hs9⟩))
          have h99 := (HOWN.out.same ((Same.refl w5).drew.trans hs8)).same hs9
          have hb9 := BoxAt.same (BoxAt.same HB.out ((Same.refl w5).drew.trans hs8)) hs9
          have hs99 := (hss.drew.trans hs8).trans hs9
          cases hp : hasK K (m * 1000 + f0)
          · have HM := Lib.hid (mix_set (k := k) (xs := L.map (conf m K)) (zs := L) (x := (f0, f1, 0)) (by rw [List.getElem?_map, HXO.out]; simp [conf, hp]) (by simp))
            go_wp2
            go_roundw
            case rel => exact ⟨k + 1, hlt, by go_num, by rw [← HM.out]; exact h99, hb9, hs99⟩
            case measure => simp [intOf]; omega
          · have HM := Lib.hid (mix_set (k := k) (xs := L.map (conf m K)) (zs := L) (x := (f0, f1, 2)) (by rw [List.getElem?_map, HXO.out]; simp [conf, hp]) (by simp))
            have hx9 : ((mix (L.map (conf m K)) L k).set k (f0, f1, 0))[k]? = some (f0, f1, 0) := List.getElem?_set_self (by rw [mix_length (by simp) (by simp; omega)]; simpa using hlt)
            obtain ⟨_, _, hd, hf⟩ := OwnR.atg cItem_len h99 hx9
            have d9 := hd 2 _ rfl
            have e9 := hf (k * 3 + 2)
            have b9 := hb9.cell 1 rfl
            have hst := OwnR.setc cItem_len h99 (k := k) (j := 2) (x := (f0, f1, 0)) (y := (f0, f1, 2)) (u := .int .i64 2) hx9 (by decide) rfl
            rw [List.set_set, HM.out] at hst
            have hs10 := hs99.grown hst.2 (by intro g' hg'; injection hg' with hg'; omega)
            have hb10 := (hst.2.block _ hb9.lt (by intro e; injection e with e; omega)).trans hb9
            have HST := Lib.hid hst.1
            have HB10 := Lib.hid hb10
            clear hst h99 hx9 hd hf hb9 hb10
            go_wp2
            go_roundw
            case rel => exact ⟨k + 1, hlt, by go_num, HST.out, HB10.out, hs10⟩
            case measure => simp [intOf]; omega
        · have hkl : k = L.length := by omega
          rw [mix_full _ _ (by simpa using hkl) (by simp)] at hown
          have k3 := h3.same hs
          have x30 := k3.cell 0 rfl
          have x31 := k3.cell 1 rfl
          have y30 := k3.frozen 0
          have y31 := k3.frozen 1
          have b0 := hb.cell 0 rfl
          have k4 := (k3.set 0 (.int .i64 m)).set 1 (.slice A1 L.length c1)
          have cf0 := k4.cell 0 rfl
          have cf1 := k4.cell 1 rfl
          have zo := hown.zn
          have nr := hs.size
          go_wp2
          rw [HF.out]
          exact bodyPost_ret (v := .agg #[.int .i64 m, .slice A1 L.length c1]) (by simp [results, Try.results20, go_sem, cf0, cf1]) rfl ⟨_, _, by rw [List.length_map],
            (by rw [List.length_map]; exact (((hown.rebase n0).upd (upd_setCell _ _ _ _) zo (.inr (by omega))).upd (upd_setCell _ _ _ _) zo (.inr (by omega)))), ((hs0.trans hs).setCell (by simp; omega) _).setCell (by simp; omega) _⟩
end Go.Proofs.Ytccgbilgfnoheaa
