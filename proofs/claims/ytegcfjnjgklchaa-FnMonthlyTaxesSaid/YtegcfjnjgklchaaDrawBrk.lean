/-
  The brackets that are drawn are valid.
-/
import Derived.Test.YtegcfjnjgklchaaDraw
import Derived.Test.YtegcfjnjgklchaaBrkS
namespace Go.Proofs.Ytegcfjnjgklchaa
open Go.RowKit

/-- valid, and each begins at 4500500 times its place at most -/
def ValidBrks (L : List TBracket) : Prop := bracketsOk L = true

set_option maxHeartbeats 1000000 in
theorem l26Brackets_any (g : Nat) (w : World) (hc0 : Cur w g) : Calls Try.prog 54 #[.pointer (some ⟨g, 0, none⟩)] w (DrawnR 42 2 cBracket g ValidBrks w) := by
  have hg0 := hc0.lt
  have he := OwnR.empty 42 2 cBracket w (Nat.le_refl _)
  go_enter Try.func54, Try.ntmps54
  go_wp2
  go_loopw [3, 4, 5] (fun o m i wr => ∃ (k : Nat) (y : Int) (L : List TBracket), k ≤ 5 ∧ i = .int .i64 k ∧ m = .int .i64 y ∧ Hid (L.length = k) ∧ 0 ≤ y ∧ y ≤ 900000 * (k : Int) ∧ Hid (allTo (brkAt L) L.length = true ∧ (L = [] → y = 0) ∧ ∀ x ∈ L, x.1 < y) ∧ OwnBracket wr w.heap.size o L ∧ Cur wr g ∧ Upd g (g + 1) w wr ∧ w.heap.size ≤ wr.heap.size) (fun _ _ i _ => 5 - (intOf i).toNat)
  case atStart => exact ⟨0, 0, [], by omega, rfl, rfl, rfl, by omega, by omega, ⟨rfl, fun _ => rfl, by simp⟩, he, hc0.same ((Same.refl _).alloc _), ((Same.refl w).alloc _).upd _ _, by simp⟩
  case round =>
    obtain ⟨k, y, L, hk, rfl, rfl, hl, hy0, hy1, hz, hown, hc, hu, hw⟩ := hrel
    have hl' : L.length ≤ 1000000000 := by have := hl.out; omega
    clear he
    go_wp2_with fail
    refine (l01Below_any g 5 _ (by omega) (by omega) hc).mono ?_
    rintro e w2 ⟨q, rfl, hq0, hq1, hc2, hu2⟩
    replace hown := hown.upd hu2 hown.zn (.inr (by omega))
    have hU2 := hu.trans hu2
    have hw2 := hu2.size
    clear hu2 hu hc
    by_cases hlt : (k : Int) < 1 + q
    · go_wp2_with fail
      refine (pickInt_any g w2.heap.size [0, 140, 250, 333, 420, 1000] _ (by simp) (by simp) (by omega) (by simp) ?_ (hc2.same ((Same.refl _).alloc _))).mono ?_
      · intro j x hj
        match j, hj with
        | 0, hj => simp at hj; subst hj; simp
        | 1, hj => simp at hj; subst hj; simp
        | 2, hj => simp at hj; subst hj; simp
        | 3, hj => simp at hj; subst hj; simp
        | 4, hj => simp at hj; subst hj; simp
        | 5, hj => simp at hj; subst hj; simp
        | j + 6, hj => simp at hj
      rintro e w3 ⟨r, rfl, hr, hc3, hu3⟩
      have hr' : inB r 0 1000 = true := by simp at hr; simp [inB]; omega
      have HR := Lib.hid hr'
      clear hr hr'
      replace hown := (hown.alloc (.cells #[.int .i64 0, .int .i64 140, .int .i64 250, .int .i64 333, .int .i64 420, .int .i64 1000] 3)).upd hu3 (hown.alloc (.cells #[.int .i64 0, .int .i64 140, .int .i64 250, .int .i64 333, .int .i64 420, .int .i64 1000] 3)).zn (.inr (by omega))
      have hU3 := (hU2.trans (((Same.refl w2).alloc _).upd _ _)).trans hu3
      have hw3 := hu3.size
      simp only [World.size_alloc] at hw3
      clear hu3 hU2 hc2
      go_wp2_with (at_builtin; refine wpList_of rfl fun _ hK => wp_appR _ (.tmp 14) (.tmp 20) 29 rfl (.agg #[.int .i64 0, .int .i64 0]) 16 Try.underlying29 Try.infoBracket rfl (by decide) cBracket_len cBracket_one w.heap.size _ L rfl (OwnR.alloc hown _) w3.heap.size 1 (y, r) rfl (cells_new rfl) hl' (by decide) (by simp; omega) (fun v' w4 ho4 hup => hK _ _ ?_))
      have hU4 := (hU3.trans (((Same.refl w3).alloc _).upd _ _)).trans' hup (Nat.le_refl _)
      have hc4 := (hc3.same ((Same.refl _).alloc _)).upd hup hg0
      have hw4 := hup.size
      simp only [World.size_alloc] at hw4
      clear hup hU3 hc3
      go_wp2_with fail
      refine (l01Below_any g 9000 _ (by omega) (by omega) hc4).mono ?_
      rintro e w5 ⟨s, rfl, hs0, hs1, hc5, hu5⟩
      have ho5 := ho4.upd hu5 ho4.zn (.inr (by omega))
      have hU5 := hU4.trans hu5
      have hw5 := hu5.size
      clear hu5 hU4
      go_wp2
      go_roundw
      case rel =>
        refine ⟨k + 1, _, _, by omega, by go_num, rfl, by have := hl.out; show List.length _ = _; simp [this], by omega, by omega, ⟨bracketsOk_push hz.out.1 (by simp [inB]; omega) HR.out hz.out.2.1 hz.out.2.2, by simp, ?_⟩, ho5, hc5, hU5, by omega⟩
        intro x hx
        rcases List.mem_append.1 hx with h | h
        · have := hz.out.2.2 x h; omega
        · simp at h; subst h; show y < _; omega
      case measure => simp [intOf]; omega
    · go_wp2
      go_ret
      refine DrawnR.of hown ?_ hc2 hU2
      show bracketsOk L = true
      rw [bracketsOk, hz.out.1, hl.out]
      simp [inB]; omega

set_option maxHeartbeats 400000 in
theorem drawBrackets_any (A : Option Addr) (n c : Nat) (w : World) (hn : n ≤ 1048576) (hA : BytesAt w w.heap.size A n) : Calls Try.prog 31 #[.slice A n c] w (GotR 42 2 cBracket ValidBrks w) := by
  go_enter Try.func31, Try.ntmps31
  go_wp2_with fail
  refine (l01New_any A n c _ hn hA).mono ?_
  rintro e w1 ⟨g, rfl, hg0, hc1, hs1⟩
  have hsz := hs1.size
  go_wp2_with fail
  refine (l26Brackets_any g _ hc1).mono ?_
  rintro e w2 ⟨L, B, d, rfl, hp, ho, hc2, hu⟩
  go_wp2
  go_ret
  exact GotR.of (ho.rebase hsz) hp (hs1.upds hu hg0)
end Go.Proofs.Ytegcfjnjgklchaa
