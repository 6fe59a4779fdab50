/-
  The lists of proofs of life that are drawn are valid.
-/
import Derived.Test.YtegcfjnjgklchaaDraw
namespace Go.Proofs.Ytegcfjnjgklchaa
open Go.RowKit

def ValidProofs (zs : List Int) : Prop := proofsOk zs = true

set_option maxHeartbeats 400000 in
theorem l27Proofs_any (g : Nat) (w : World) (hc0 : Cur w g) : Calls Try.prog 58 #[.pointer (some ⟨g, 0, none⟩)] w (DrawnI g ValidProofs w) := by
  have hg0 := hc0.lt
  go_enter Try.func58, Try.ntmps58
  go_wp2_with fail
  refine (l01Below_any g 20 _ (by omega) (by omega) (hc0.same ((Same.refl _).alloc _))).mono ?_
  rintro e w1 ⟨m0, rfl, hm0, hm1, hc1, hu1⟩
  have hown := (OwnI.empty w (Nat.le_refl _)).upd hu1 (OwnI.empty w (Nat.le_refl _)).zn (.inr (by omega))
  have hw1 := hu1.size
  simp only [World.size_alloc] at hw1
  have hu := (((Same.refl w).alloc (.cells #[] 3)).upd g (g + 1)).trans hu1
  clear hu1
  go_wp2
  go_loopw [3, 4, 5] (fun o m i wr => ∃ (k : Nat) (y : Int) (zs : List Int), k ≤ 7 ∧ i = .int .i64 k ∧ m = .int .i64 y ∧ Hid (zs.length = k) ∧ 0 ≤ y ∧ y ≤ 19 + 25 * (k : Int) ∧ Hid (proofsOk zs = true ∧ ∀ x ∈ zs, x < y) ∧ OwnI wr w.heap.size o zs ∧ Cur wr g ∧ Upd g (g + 1) w wr ∧ w.heap.size ≤ wr.heap.size) (fun _ _ i _ => 7 - (intOf i).toNat)
  case atStart => exact ⟨0, m0, [], by omega, rfl, rfl, rfl, hm0, by omega, ⟨by decide, by simp⟩, hown, hc1, hu, by omega⟩
  case round =>
    obtain ⟨k, y, zs, hk, rfl, rfl, hl, hy0, hy1, hz, hown, hc, hu, hw⟩ := hrel
    have hl' : zs.length ≤ 1000000000 := by have := hl.out; omega
    go_wp2_with fail
    refine (l01Below_any g 7 _ (by omega) (by omega) hc).mono ?_
    rintro e w2 ⟨q, rfl, hq0, hq1, hc2, hu2⟩
    replace hown := hown.upd hu2 hown.zn (.inr (by omega))
    have hU2 := hu.trans hu2
    have hw2 := hu2.size
    clear hu2 hu
    by_cases hlt : (k : Int) < q
    · go_wp2_with (at_builtin; refine appI _ rfl (.tmp 15) (.tmp 17) rfl w.heap.size _ _ rfl (OwnI.alloc hown _) w2.heap.size 1 y rfl (by simp) hl' (by simp; omega) ?_)
      intro v' w3 ho3 hup
      have hU3 := (hU2.trans (((Same.refl w2).alloc _).upd _ _)).trans' hup (Nat.le_refl _)
      have hc3 := (hc2.same ((Same.refl _).alloc _)).upd hup hg0
      have hw3 := hup.size
      simp only [World.size_alloc] at hw3
      clear hup
      go_wp2_with fail
      refine (l01Below_any g 25 _ (by omega) (by omega) hc3).mono ?_
      rintro e w4 ⟨r, rfl, hr0, hr1, hc4, hu4⟩
      have ho4 := ho3.upd hu4 ho3.zn (.inr (by omega))
      have hU4 := hU3.trans hu4
      have hw4 := hu4.size
      clear hu4 hU3
      go_wp2
      go_roundw
      case rel => exact ⟨k + 1, _, _, by omega, by go_num, rfl, by have := hl.out; show List.length _ = _; simp [this], by omega, by omega, ⟨proofsOk_push hz.out.1 hz.out.2 hy0 (by omega) (by have := hl.out; omega), by intro x hx; rcases List.mem_append.1 hx with h | h; have := hz.out.2 x h; omega; simp at h; omega⟩, ho4, hc4, hU4, by omega⟩
      case measure => simp [intOf]; omega
    · go_wp2
      go_ret
      exact DrawnI.of hown hz.out.1 hc2 hU2

set_option maxHeartbeats 400000 in
theorem drawProofs_any (A : Option Addr) (n c : Nat) (w : World) (hn : n ≤ 1048576) (hA : BytesAt w w.heap.size A n) : Calls Try.prog 35 #[.slice A n c] w (GotI ValidProofs w) := by
  go_enter Try.func35, Try.ntmps35
  go_wp2_with fail
  refine (l01New_any A n c _ hn hA).mono ?_
  rintro e w1 ⟨g, rfl, hg0, hc1, hs1⟩
  have hsz := hs1.size
  go_wp2_with fail
  refine (l27Proofs_any g _ hc1).mono ?_
  rintro e w2 ⟨zs, B, d, rfl, hp, ho, hc2, hu⟩
  go_wp2
  go_ret
  exact GotI.of (ho.base hsz) hp (hs1.upds hu hg0)
end Go.Proofs.Ytegcfjnjgklchaa
