/-
  The contract of allWithin.
-/
import Derived.Test.YtccgbilgfnoheaaBase
import Derived.Test.YtccgbilgfnoheaaFound
import Derived.Test.YtccgbilgfnoheaaIntS
namespace Go.Proofs.Ytccgbilgfnoheaa
open Go.RowKit

theorem notIn_any (x lo hi : Int) (b1 b2 : Nat) (w : World) (h1 : w.cell? ⟨b1, 0, none⟩ = some (.int .i64 lo)) (h2 : w.cell? ⟨b2, 0, none⟩ = some (.int .i64 hi)) :
    Calls Try.prog 84 #[.int .i64 x, .pointer (some ⟨b1, 0, none⟩), .pointer (some ⟨b2, 0, none⟩)] w fun e w' => e = .returned (.bool (!inB x lo hi)) ∧ Same w w' := by
  go_enter Try.func84, Try.ntmps84
  go_wp2_with (go_at_call 59; refine (within_any _ _ _ _).mono ?_; rintro e w' ⟨rfl, rfl⟩)
  go_ret
  exact ⟨rfl, Same.refl _⟩

set_option maxHeartbeats 400000 in
theorem indexOut_any (b1 b2 : Nat) (lo hi : Int) (A : Option Addr) (c : Nat) (zs : List Int) (w : World) (hz : zs.length ≤ 9223372036854775807) (hA : IntsAt w A zs) (hl1 : b1 < w.heap.size) (hl2 : b2 < w.heap.size) (h1 : w.cell? ⟨b1, 0, none⟩ = some (.int .i64 lo)) (h2 : w.cell? ⟨b2, 0, none⟩ = some (.int .i64 hi)) :
    Calls Try.prog 87 #[.slice A zs.length c, .func (.func 84) #[] #[.pointer (some ⟨b1, 0, none⟩), .pointer (some ⟨b2, 0, none⟩)]] w fun e w' => ∃ r : Int, e = .returned (.int .i64 r) ∧ Found (fun x => !inB x lo hi) zs r ∧ Same w w' := by
  go_enter Try.func87, Try.ntmps87
  go_wp2
  go_loopw [8] (fun i wr => ∃ k : Nat, k ≤ zs.length ∧ i = .int .i64 k ∧ Hid ((zs.take k).all (fun x => !!inB x lo hi) = true) ∧ Same w wr) (fun i _ => zs.length - (intOf i).toNat)
  case atStart => exact ⟨0, Nat.zero_le _, rfl, by simp [Hid], Same.refl _⟩
  case round =>
    obtain ⟨k, hk, rfl, hall, hs⟩ := hrel
    by_cases hlt : k < zs.length
    · obtain ⟨b, off, x, rfl, hc, HX, _⟩ := (hA.same hs).at_ hlt
      clear hA
      have hb1 := (hs.cell (p := ⟨b1, 0, none⟩) hl1).trans h1
      have hb2 := (hs.cell (p := ⟨b2, 0, none⟩) hl2).trans h2
      go_wp2_with fail
      refine (notIn_any x lo hi b1 b2 _ hb1 hb2).mono ?_
      rintro e w1 ⟨rfl, hs1⟩
      have hss := hs.trans hs1
      clear hs hs1
      cases hp : !inB x lo hi
      · have HP := Lib.hid (all_take_succ hall.out HX.out (show (!!inB x lo hi) = true by rw [hp]; rfl))
        go_wp2
        go_roundw
        case rel => exact ⟨k + 1, hlt, by go_num, HP, hss⟩
        case measure => simp [intOf]; omega
      · have HP := Lib.hid (show Found (fun x => !inB x lo hi) zs k from .inr ⟨k, _, rfl, HX.out, hp, hall.out⟩)
        go_wp2
        go_ret
        exact ⟨_, rfl, HP.out, hss⟩
    · have hl := hall.out
      rw [show k = zs.length by omega, List.take_length] at hl
      have HP := Lib.hid hl
      clear hl hall
      go_wp2
      go_ret
      exact ⟨_, rfl, .inl ⟨rfl, HP.out⟩, hs⟩

theorem containsOut_any (b1 b2 : Nat) (lo hi : Int) (A : Option Addr) (c : Nat) (zs : List Int) (w : World) (hz : zs.length ≤ 9223372036854775807) (hA : IntsAt w A zs) (hl1 : b1 < w.heap.size) (hl2 : b2 < w.heap.size) (h1 : w.cell? ⟨b1, 0, none⟩ = some (.int .i64 lo)) (h2 : w.cell? ⟨b2, 0, none⟩ = some (.int .i64 hi)) :
    Calls Try.prog 83 #[.slice A zs.length c, .func (.func 84) #[] #[.pointer (some ⟨b1, 0, none⟩), .pointer (some ⟨b2, 0, none⟩)]] w fun e w' => e = .returned (.bool (!zs.all (fun z => inB z lo hi))) ∧ Same w w' := by
  go_enter Try.func83, Try.ntmps83
  go_wp2_with fail
  refine (indexOut_any b1 b2 lo hi A c zs _ hz hA hl1 hl2 h1 h2).mono ?_
  rintro e w1 ⟨r, rfl, hf, hs1⟩
  have HF := Lib.hid hf.any
  clear hf
  go_wp2
  all_goals go_ret
  all_goals exact ⟨ret_bool (by rw [List.not_all_eq_any_not]; first | exact HF.out | (rw [← HF.out]; simp; omega)), hs1⟩

set_option maxHeartbeats 400000 in
theorem allWithin_any (A : Option Addr) (c : Nat) (zs : List Int) (lo hi : Int) (w : World) (hz : zs.length ≤ 9223372036854775807) (hA : IntsAt w A zs) :
    Calls Try.prog 63 #[.slice A zs.length c, .int .i64 lo, .int .i64 hi] w fun e w' => e = .returned (.bool (zs.all (fun z => inB z lo hi))) ∧ Same w w' := by
  go_enter Try.func63, Try.ntmps63
  go_wp2_with fail
  refine (containsOut_any _ _ lo hi A c zs _ hz (hA.same (((Same.refl w).alloc _).alloc _)) ?_ ?_ ?_ ?_).mono ?_
  · simp; omega
  · simp
  · simp
  · simp
  rintro e w1 ⟨rfl, hs1⟩
  go_wp2_with fail
  go_ret
  exact ⟨ret_bool (by simp), (((Same.refl w).alloc _).alloc _).trans hs1⟩
end Go.Proofs.Ytccgbilgfnoheaa
