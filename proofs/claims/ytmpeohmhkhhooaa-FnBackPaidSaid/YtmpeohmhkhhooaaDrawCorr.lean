/-
  The corrections that are drawn.
-/
import Derived.Test.YtmpeohmhkhhooaaDraw
import Derived.Test.YtmpeohmhkhhooaaCorr
namespace Go.Proofs.Ytmpeohmhkhhooaa
open Go.RowKit

/-- What is drawn: seven corrections at most, their months early, their amounts small. -/
def ValidCorrs (L : List TCorrection) : Prop := L.length ≤ 7 ∧ ∀ x ∈ L, (0 ≤ x.1 ∧ x.1 ≤ 100) ∧ (0 ≤ x.2.1 ∧ x.2.1 ≤ 99000) ∧ (0 ≤ x.2.2 ∧ x.2.2 ≤ 99000)

set_option maxHeartbeats 1000000 in
theorem l23List_any (g : Nat) (w : World) (hc0 : Cur w g) : Calls Try.prog 51 #[.pointer (some ⟨g, 0, none⟩)] w (DrawnR 46 3 cCorrection g ValidCorrs w) := by
  have hg0 := hc0.lt
  have he := OwnR.empty 46 3 cCorrection w (Nat.le_refl _)
  go_enter Try.func51, Try.ntmps51
  go_wp2_with fail
  refine (l01Below_any g 40 _ (by omega) (by omega) (hc0.same ((Same.refl _).alloc _))).mono ?_
  rintro e w1 ⟨m0, rfl, hm0, hm1, hc1, hu1⟩
  have hown := he.upd hu1 he.zn (.inr (by omega))
  have hw1 := hu1.size
  simp only [World.size_alloc] at hw1
  have hu := (((Same.refl w).alloc (.cells #[] 46)).upd g (g + 1)).trans hu1
  clear hu1 he
  go_wp2
  go_loopw [3, 4, 5] (fun o m i wr => ∃ (k : Nat) (y : Int) (L : List TCorrection), k ≤ 7 ∧ i = .int .i64 k ∧ m = .int .i64 y ∧ Hid (L.length = k) ∧ 0 ≤ y ∧ y ≤ 39 + 5 * (k : Int) ∧ Hid (∀ x ∈ L, (0 ≤ x.1 ∧ x.1 ≤ 100) ∧ (0 ≤ x.2.1 ∧ x.2.1 ≤ 99000) ∧ (0 ≤ x.2.2 ∧ x.2.2 ≤ 99000)) ∧ OwnCorrection wr w.heap.size o L ∧ Cur wr g ∧ Upd g (g + 1) w wr ∧ w.heap.size ≤ wr.heap.size) (fun _ _ i _ => 7 - (intOf i).toNat)
  case atStart => exact ⟨0, m0, [], by omega, rfl, rfl, rfl, hm0, by omega, by simp [Hid], hown, hc1, hu, by omega⟩
  case round =>
    obtain ⟨k, y, L, hk, rfl, rfl, hl, hy0, hy1, hz, hown, hc, hu, hw⟩ := hrel
    have hl' : L.length ≤ 1000000000 := by have := hl.out; omega
    go_wp2_with fail
    refine (l01Below_any g 8 _ (by omega) (by omega) hc).mono ?_
    rintro e w2 ⟨q, rfl, hq0, hq1, hc2, hu2⟩
    replace hown := hown.upd hu2 hown.zn (.inr (by omega))
    have hU2 := hu.trans hu2
    have hw2 := hu2.size
    clear hu2 hu hc
    by_cases hlt : (k : Int) < q
    · go_wp2_with fail
      refine (l01Below_any g 100 _ (by omega) (by omega) hc2).mono ?_
      rintro e w3 ⟨a, rfl, ha0, ha1, hc3, hu3⟩
      replace hown := hown.upd hu3 hown.zn (.inr (by omega))
      have hU3 := hU2.trans hu3
      have hw3 := hu3.size
      clear hu3 hU2 hc2
      go_wp2_with fail
      refine (l01Below_any g 100 _ (by omega) (by omega) hc3).mono ?_
      rintro e w4 ⟨b, rfl, hb0, hb1, hc4, hu4⟩
      replace hown := hown.upd hu4 hown.zn (.inr (by omega))
      have hU4 := hU3.trans hu4
      have hw4 := hu4.size
      clear hu4 hU3 hc3
      go_wp2_with (at_builtin; refine wpList_of rfl fun _ hK => wp_appR _ (.tmp 15) (.tmp 24) 25 rfl (.agg #[.int .i64 0, .int .i64 0, .int .i64 0]) 24 Try.underlying25 Try.infoCorrection rfl (by decide) cCorrection_len cCorrection_one w.heap.size _ L rfl (OwnR.alloc hown _) w4.heap.size 1 (y, a * 1000, b * 1000) rfl (cells_new rfl) hl' (by decide) (by simp; omega) (fun v' w5 ho5 hup => hK _ _ ?_))
      have hU5 := (hU4.trans (((Same.refl w4).alloc _).upd _ _)).trans' hup (Nat.le_refl _)
      have hc5 := (hc4.same ((Same.refl _).alloc _)).upd hup hg0
      have hw5 := hup.size
      simp only [World.size_alloc] at hw5
      clear hup hU4 hc4
      go_wp2_with fail
      refine (l01Below_any g 5 _ (by omega) (by omega) hc5).mono ?_
      rintro e w6 ⟨s, rfl, hs0, hs1, hc6, hu6⟩
      have ho6 := ho5.upd hu6 ho5.zn (.inr (by omega))
      have hU6 := hU5.trans hu6
      have hw6 := hu6.size
      clear hu6 hU5
      go_wp2
      go_roundw
      case rel =>
        refine ⟨k + 1, _, _, by omega, by go_num, rfl, by have := hl.out; show List.length _ = _; simp [this], by omega, by omega, ?_, ho6, hc6, hU6, by omega⟩
        intro x hx
        rcases List.mem_append.1 hx with h | h
        · exact hz.out x h
        · simp at h; subst h; dsimp only; omega
      case measure => simp [intOf]; omega
    · go_wp2
      go_ret
      exact DrawnR.of hown ⟨by rw [hl.out]; omega, hz.out⟩ hc2 hU2

set_option maxHeartbeats 400000 in
theorem drawCorrections_any (A : Option Addr) (n c : Nat) (w : World) (hn : n ≤ 1048576) (hA : BytesAt w w.heap.size A n) : Calls Try.prog 37 #[.slice A n c] w (GotR 46 3 cCorrection ValidCorrs w) := by
  go_enter Try.func37, Try.ntmps37
  go_wp2_with fail
  refine (l01New_any A n c _ hn hA).mono ?_
  rintro e w1 ⟨g, rfl, hg0, hc1, hs1⟩
  have hsz := hs1.size
  go_wp2_with fail
  refine (l23List_any g _ hc1).mono ?_
  rintro e w2 ⟨L, B, d, rfl, hp, ho, hc2, hu⟩
  go_wp2
  go_ret
  exact GotR.of (ho.rebase hsz) hp (hs1.upds hu hg0)
end Go.Proofs.Ytmpeohmhkhhooaa
