/-
  Marks in ledgers and books.
-/
import Derived.Test.YthelclibokkdnaaLedger
namespace Go.Proofs.Ythelclibokkdnaa
open Go.RowKit

def markPosting (k0 : Int) (m : Nat) : List TPosting := (List.range m).map fun j : Nat => (k0 + 4 * (j : Int), k0 + 4 * (j : Int) + 1, k0 + 4 * (j : Int) + 1 + 1, k0 + 4 * (j : Int) + 1 + 1 + 1)
theorem markPosting_at {k0 : Int} {m j : Nat} (h : j < m) : (markPosting k0 m)[j]? = some (k0 + 4 * (j : Int), k0 + 4 * (j : Int) + 1, k0 + 4 * (j : Int) + 1 + 1, k0 + 4 * (j : Int) + 1 + 1 + 1) := by simp [markPosting, h]
theorem markPosting_length (k0 : Int) (m : Nat) : (markPosting k0 m).length = m := by simp [markPosting]

set_option maxHeartbeats 1000000 in
theorem markPostingS_any (A : Option Addr) (n c : Nat) (L : List TPosting) (k0 : Int) (w : World) (base : Nat) (hl : L.length = n) (hz : L.length ≤ 2000000) (h0 : 0 ≤ k0) (h1 : k0 ≤ 1000000000) (hA : OwnPosting w base (.slice A n c) L) {lo hi : Nat} (hzn : Zn (.slice A n c) lo hi) :
    Calls Try.prog 58 #[.slice A n c, .int .i64 k0] w fun e w' => e = .returned (.int .i64 (k0 + 4 * (n : Int))) ∧ OwnPosting w' base (.slice A n c) (markPosting k0 n) ∧ Upd lo hi w w' := by
  subst hl
  go_enter Try.func58, Try.ntmps58
  go_wp2
  go_loopw [1, 5] (fun q i wr => ∃ k : Nat, k ≤ L.length ∧ i = .int .i64 k ∧ q = .int .i64 (k0 + 4 * (k : Int)) ∧ OwnPosting wr base (.slice A L.length c) (mix (markPosting k0 L.length) L k) ∧ Upd lo hi w wr) (fun _ i _ => L.length - (intOf i).toNat)
  case atStart => exact ⟨0, Nat.zero_le _, rfl, by simp, by rw [mix_zero]; exact hA, (Same.refl w).upd _ _⟩
  case round =>
    obtain ⟨k, hk, rfl, rfl, hown, hu⟩ := hrel
    by_cases hlt : k < L.length
    · obtain ⟨u, hu'⟩ : ∃ u, (mix (markPosting k0 L.length) L k)[k]? = some u := ⟨_, List.getElem?_eq_getElem (by rw [mix_length (by simp [markPosting]) (by simp [markPosting]; omega)]; simpa [markPosting] using hlt)⟩
      obtain ⟨u0_, u1_, u2_, u3_⟩ := u
      obtain ⟨g, rfl, hb, hgs, hd, hf⟩ := OwnR.at_ cPosting_len hown hu'
      have hst := hown.set cPosting_len (k := k) (by rw [mix_length (by simp [markPosting]) (by simp [markPosting]; omega)]; simpa [markPosting] using hlt) (k0 + 4 * (k : Int), k0 + 4 * (k : Int) + 1, k0 + 4 * (k : Int) + 1 + 1, k0 + 4 * (k : Int) + 1 + 1 + 1)
      clear hA hu' hown
      have hzg := hzn g rfl
      have d0 := hd 0 _ rfl
      have d1 := hd 1 _ rfl
      have d2 := hd 2 _ rfl
      have d3 := hd 3 _ rfl
      simp only [Nat.add_zero] at d0
      clear hd
      have hf0 := hf (k * 4)
      have hf1 := hf (k * 4 + 1)
      have hf2 := hf (k * 4 + 2)
      have hf3 := hf (k * 4 + 3)
      clear hf
      go_wp2
      go_roundw
      case rel =>
        refine ⟨k + 1, hlt, by go_num, by go_num, ?_, hu.grown hst.out.2 hzg.1 hzg.2⟩
        have := hst.out.1
        rw [mix_set (markPosting_at hlt) (by simp [markPosting])] at this
        exact this
      case measure => simp [intOf]; omega
    · go_wp2
      go_ret
      refine ⟨ret_int (by omega), ?_, hu⟩
      rwa [mix_full _ _ (by simp [markPosting]; omega) (by simp [markPosting])] at hown

set_option maxHeartbeats 1000000 in
theorem heldPostingS_any (A : Option Addr) (n c : Nat) (k0 : Int) (w : World) (hz : n ≤ 2000000) (h0 : 0 ≤ k0) (h1 : k0 ≤ 1000000000) (hA : AtPosting w A (markPosting k0 n)) :
    Calls Try.prog 59 #[.slice A n c, .int .i64 k0] w fun e w' => e = .returned (.int .i64 (k0 + 4 * (n : Int))) ∧ Same w w' := by
  go_enter Try.func59, Try.ntmps59
  go_wp2
  go_loopw [1, 5] (fun q i wr => ∃ k : Nat, k ≤ n ∧ i = .int .i64 k ∧ q = .int .i64 (k0 + 4 * (k : Int)) ∧ Same w wr) (fun _ i _ => n - (intOf i).toNat)
  case atStart => exact ⟨0, Nat.zero_le _, rfl, by simp, Same.refl _⟩
  case round =>
    obtain ⟨k, hk, rfl, rfl, hs⟩ := hrel
    by_cases hlt : k < n
    · obtain ⟨b, off, x, rfl, hc, HX, _⟩ := (hA.same hs).at_ (k := k) (by rw [markPosting_length]; exact hlt)
      obtain rfl : x = (k0 + 4 * (k : Int), k0 + 4 * (k : Int) + 1, k0 + 4 * (k : Int) + 1 + 1, k0 + 4 * (k : Int) + 1 + 1 + 1) := Option.some.inj (HX.out.symm.trans (markPosting_at (k0 := k0) hlt))
      clear hA HX
      have c0 := hc 0 _ rfl
      have c1 := hc 1 _ rfl
      have c2 := hc 2 _ rfl
      have c3 := hc 3 _ rfl
      simp only [Nat.add_zero] at c0
      clear hc
      have hb0 : ((k0 + 4 * (k : Int)) != (k0 + 4 * (k : Int))) = false := by simp
      have hb1 : ((k0 + 4 * (k : Int) + 1) != (k0 + 4 * (k : Int) + 1)) = false := by simp
      have hb2 : ((k0 + 4 * (k : Int) + 1 + 1) != (k0 + 4 * (k : Int) + 1 + 1)) = false := by simp
      have hb3 : ((k0 + 4 * (k : Int) + 1 + 1 + 1) != (k0 + 4 * (k : Int) + 1 + 1 + 1)) = false := by simp
      go_wp2
      go_roundw
      case rel => exact ⟨k + 1, hlt, by go_num, by go_num, hs⟩
      case measure => simp [intOf]; omega
    · go_wp2
      go_ret
      exact ⟨ret_int (by omega), hs⟩

set_option maxHeartbeats 400000 in
theorem markLedger_any (A : Option Addr) (n c : Nat) (L : List TPosting) (k0 : Int) (w : World) (base : Nat) (hl : L.length = n) (hz : L.length ≤ 2000000) (h0 : 0 ≤ k0) (h1 : k0 ≤ 1000000000) (hA : OwnPosting w base (.slice A n c) L) {lo hi : Nat} (hzn : Zn (.slice A n c) lo hi) :
    Calls Try.prog 43 #[.agg #[.slice A n c], .int .i64 k0] w fun e w' => e = .returned (.int .i64 (k0 + 4 * (n : Int))) ∧ OwnPosting w' base (.slice A n c) (markPosting k0 n) ∧ Upd lo hi w w' := by
  go_enter Try.func43, Try.ntmps43
  go_wp2_with fail
  have hs0 := (Same.alloc (Same.refl w) (.cells #[.slice A n c] 38))
  generalize (w.alloc (.cells #[.slice A n c] 38)) = w0 at *
  refine (markPostingS_any A n c L k0 _ base hl hz h0 h1 (hA.same hs0) hzn).mono ?_
  rintro e w1 ⟨rfl, ho, hu⟩
  go_wp2
  go_ret
  exact ⟨rfl, ho, (hs0.upd _ _).trans hu⟩

set_option maxHeartbeats 400000 in
theorem heldLedger_any (A : Option Addr) (n c : Nat) (k0 : Int) (w : World) (hz : n ≤ 2000000) (h0 : 0 ≤ k0) (h1 : k0 ≤ 1000000000) (hA : AtPosting w A (markPosting k0 n)) :
    Calls Try.prog 44 #[.agg #[.slice A n c], .int .i64 k0] w fun e w' => e = .returned (.int .i64 (k0 + 4 * (n : Int))) ∧ Same w w' := by
  go_enter Try.func44, Try.ntmps44
  go_wp2_with fail
  have hs0 := (Same.alloc (Same.refl w) (.cells #[.slice A n c] 38))
  generalize (w.alloc (.cells #[.slice A n c] 38)) = w0 at *
  refine (heldPostingS_any A n c k0 _ hz h0 h1 (hA.same hs0)).mono ?_
  rintro e w1 ⟨rfl, hs1⟩
  go_wp2
  go_ret
  exact ⟨rfl, hs0.trans hs1⟩

set_option maxHeartbeats 400000 in
theorem markBooks_any (A : Option Addr) (n c : Nat) (L : List TPosting) (z k0 : Int) (w : World) (base : Nat) (hl : L.length = n) (hz : L.length ≤ 2000000) (h0 : 0 ≤ k0) (h1 : k0 ≤ 1000000000) (hA : OwnPosting w base (.slice A n c) L) {lo hi : Nat} (hzn : Zn (.slice A n c) lo hi) :
    Calls Try.prog 57 #[.agg #[.slice A n c, .int .i64 z], .int .i64 k0] w fun e w' => e = .returned (.int .i64 (k0 + 4 * (n : Int))) ∧ OwnPosting w' base (.slice A n c) (markPosting k0 n) ∧ Upd lo hi w w' := by
  go_enter Try.func57, Try.ntmps57
  go_wp2_with fail
  have hs0 := (Same.alloc (Same.refl w) (.cells #[.slice A n c, .int .i64 z] 47))
  generalize (w.alloc (.cells #[.slice A n c, .int .i64 z] 47)) = w0 at *
  refine (markLedger_any A n c L k0 _ base hl hz h0 h1 (hA.same hs0) hzn).mono ?_
  rintro e w1 ⟨rfl, ho, hu⟩
  go_wp2
  go_ret
  exact ⟨rfl, ho, (hs0.upd _ _).trans hu⟩
end Go.Proofs.Ythelclibokkdnaa
