/-
  Marks in lists of brackets.
-/
import Derived.Test.YtegcfjnjgklchaaBrkS
namespace Go.Proofs.Ytegcfjnjgklchaa
open Go.RowKit

def markBracket (k0 : Int) (m : Nat) : List TBracket := (List.range m).map fun j : Nat => (k0 + 2 * (j : Int), k0 + 2 * (j : Int) + 1)
theorem markBracket_at {k0 : Int} {m j : Nat} (h : j < m) : (markBracket k0 m)[j]? = some (k0 + 2 * (j : Int), k0 + 2 * (j : Int) + 1) := by simp [markBracket, h]
theorem markBracket_length (k0 : Int) (m : Nat) : (markBracket k0 m).length = m := by simp [markBracket]

set_option maxHeartbeats 1000000 in
theorem markBracketS_any (A : Option Addr) (n c : Nat) (L : List TBracket) (k0 : Int) (w : World) (base : Nat) (hl : L.length = n) (hz : L.length ≤ 2000000) (h0 : 0 ≤ k0) (h1 : k0 ≤ 1000000000) (hA : OwnBracket w base (.slice A n c) L) {lo hi : Nat} (hzn : Zn (.slice A n c) lo hi) :
    Calls Try.prog 44 #[.slice A n c, .int .i64 k0] w fun e w' => e = .returned (.int .i64 (k0 + 2 * (n : Int))) ∧ OwnBracket w' base (.slice A n c) (markBracket k0 n) ∧ Upd lo hi w w' := by
  subst hl
  go_enter Try.func44, Try.ntmps44
  go_wp2
  go_loopw [1, 5] (fun q i wr => ∃ k : Nat, k ≤ L.length ∧ i = .int .i64 k ∧ q = .int .i64 (k0 + 2 * (k : Int)) ∧ OwnBracket wr base (.slice A L.length c) (mix (markBracket k0 L.length) L k) ∧ Upd lo hi w wr) (fun _ i _ => L.length - (intOf i).toNat)
  case atStart => exact ⟨0, Nat.zero_le _, rfl, by simp, by rw [mix_zero]; exact hA, (Same.refl w).upd _ _⟩
  case round =>
    obtain ⟨k, hk, rfl, rfl, hown, hu⟩ := hrel
    by_cases hlt : k < L.length
    · obtain ⟨u, hu'⟩ : ∃ u, (mix (markBracket k0 L.length) L k)[k]? = some u := ⟨_, List.getElem?_eq_getElem (by rw [mix_length (by simp [markBracket]) (by simp [markBracket]; omega)]; simpa [markBracket] using hlt)⟩
      obtain ⟨u0_, u1_⟩ := u
      obtain ⟨g, rfl, hb, hgs, hd, hf⟩ := OwnR.at_ cBracket_len hown hu'
      have hst := hown.set cBracket_len (k := k) (by rw [mix_length (by simp [markBracket]) (by simp [markBracket]; omega)]; simpa [markBracket] using hlt) (k0 + 2 * (k : Int), k0 + 2 * (k : Int) + 1)
      clear hA hu' hown
      have hzg := hzn g rfl
      have d0 := hd 0 _ rfl
      have d1 := hd 1 _ rfl
      simp only [Nat.add_zero] at d0
      clear hd
      have hf0 := hf (k * 2)
      have hf1 := hf (k * 2 + 1)
      clear hf
      go_wp2
      go_roundw
      case rel =>
        refine ⟨k + 1, hlt, by go_num, by go_num, ?_, hu.grown hst.out.2 hzg.1 hzg.2⟩
        have := hst.out.1
        rw [mix_set (markBracket_at hlt) (by simp [markBracket])] at this
        exact this
      case measure => simp [intOf]; omega
    · go_wp2
      go_ret
      refine ⟨ret_int (by omega), ?_, hu⟩
      rwa [mix_full _ _ (by simp [markBracket]; omega) (by simp [markBracket])] at hown
end Go.Proofs.Ytegcfjnjgklchaa
