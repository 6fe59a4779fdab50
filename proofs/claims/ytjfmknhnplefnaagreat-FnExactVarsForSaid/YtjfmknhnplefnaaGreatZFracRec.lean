/-
  Rows of fractions: compared and marked.
-/
import Derived.Test.YtjfmknhnplefnaaGreatZTake
import Derived.Test.YtjfmknhnplefnaaGreatZNodeVal
import Derived.StillTailTactics
namespace Go.Proofs.YtjfmknhnplefnaaGreat
open Go.RowKit

set_option maxHeartbeats 400000 in
theorem eqFrac_any (f0 f1 g0 g1 : Int) (w : World) : Calls Tryz.prog 88 #[.agg #[.int .i64 f0, .int .i64 f1], .agg #[.int .i64 g0, .int .i64 g1]] w fun e w' => e = .returned (.bool (decide (((f0, f1) : TFrac) = (g0, g1)))) ∧ Same w w' := by
  by_cases h0 : f0 = g0
  · subst h0
    have b0 : (f0 != f0) = false := by simp
    by_cases h1 : f1 = g1
    · subst h1
      have b1 : (f1 != f1) = false := by simp
      go_enter Tryz.func88, Tryz.ntmps88
      go_wp2
      go_ret
      exact ⟨rfl, ((Same.refl w).alloc _).alloc _⟩
    · have b1 : (f1 != g1) = true := by simp [h1]
      have HN := Lib.hid h1
      clear h1
      go_enter Tryz.func88, Tryz.ntmps88
      go_wp2
      go_ret
      exact ⟨ret_bool (Eq.symm (decide_eq_false (fun e => HN.out (by simpa using congrArg (fun x : TFrac => x.2) e)))), ((Same.refl w).alloc _).alloc _⟩
  · have b0 : (f0 != g0) = true := by simp [h0]
    have HN := Lib.hid h0
    clear h0
    go_enter Tryz.func88, Tryz.ntmps88
    go_wp2
    go_ret
    exact ⟨ret_bool (Eq.symm (decide_eq_false (fun e => HN.out (by simpa using congrArg (fun x : TFrac => x.1) e)))), ((Same.refl w).alloc _).alloc _⟩

set_option maxRecDepth 10000 in
set_option maxHeartbeats 1000000 in
theorem eqFracS_any (A B : Option Addr) (c d : Nat) (xs ys : List TFrac) (w : World) (hx : xs.length ≤ 9223372036854775807) (hy : ys.length ≤ 9223372036854775807) (hA : AtFrac w A xs) (hB : AtFrac w B ys) :
    Calls Tryz.prog 29 #[.slice A xs.length c, .slice B ys.length d] w fun e w' => e = .returned (.bool (decide (xs = ys))) ∧ Same w w' := by
  by_cases hl : xs.length = ys.length
  · have hne : ((xs.length : Int) != (ys.length : Int)) = false := by rw [hl]; simp
    have HL := Lib.hid hl
    clear hl
    go_enter Tryz.func29, Tryz.ntmps29
    go_wp2
    go_loopw [5] (fun i wr => ∃ k : Nat, k ≤ xs.length ∧ i = .int .i64 k ∧ Hid (xs.take k = ys.take k) ∧ Same w wr) (fun i _ => xs.length - (intOf i).toNat)
    case atStart => exact ⟨0, Nat.zero_le _, rfl, rfl, Same.refl _⟩
    case round =>
      obtain ⟨k, hk, rfl, hall, hd⟩ := hrel
      by_cases hlt : k < xs.length
      · obtain ⟨b, off, x, rfl, hc, HX, _⟩ := (hA.same hd).at_ hlt
        have hlt' : k < ys.length := by have := HL.out; omega
        obtain ⟨b', off', y, rfl, hc', HY, _⟩ := (hB.same hd).at_ hlt'
        clear hA hB
        obtain ⟨f0, f1⟩ := x
        obtain ⟨g0, g1⟩ := y
        have c0 := hc 0 _ rfl
        have c1 := hc 1 _ rfl
        simp only [Nat.add_zero] at c0
        clear hc
        have e0 := hc' 0 _ rfl
        have e1 := hc' 1 _ rfl
        simp only [Nat.add_zero] at e0
        clear hc'
        go_wp2
        go_still_tail 8, (by kernel_rfl)
        change wpList _ _ _ _ _ wr.drew
        have hdr : Same w wr.drew := hd.drew
        generalize wr.drew = w2 at *
        go_wp2_with fail
        refine (eqFrac_any f0 f1 g0 g1 _).mono ?_
        rintro e w3 ⟨rfl, hs3⟩
        have hss := hdr.trans hs3
        clear c0 e0 c1 e1 hs3 hdr hd
        by_cases hxy : ((f0, f1) : TFrac) = (g0, g1)
        · rw [decide_eq_true hxy]
          have HXY := Lib.hid hxy
          clear hxy
          go_wp2
          go_roundw
          case rel => exact ⟨k + 1, hlt, by go_num, take_eq_succ hall.out HX.out (by rw [HXY.out]; exact HY.out), hss⟩
          case measure => simp [intOf]; omega
        · rw [decide_eq_false hxy]
          have HN := Lib.hid hxy
          clear hxy
          go_wp2
          go_ret
          refine ⟨ret_bool (Eq.symm (decide_eq_false (fun e => HN.out ?_))), hss⟩
          subst e
          exact Option.some.inj (HX.out.symm.trans HY.out)
      · go_wp2
        go_ret
        refine ⟨ret_bool (Eq.symm (decide_eq_true ?_)), hd⟩
        have h1 := hall.out
        have h2 := HL.out
        rw [show k = xs.length by omega, List.take_length, h2, List.take_length] at h1
        exact h1
  · have hne : ((xs.length : Int) != (ys.length : Int)) = true := by simp; omega
    have HL := Lib.hid hl
    clear hl
    go_enter Tryz.func29, Tryz.ntmps29
    go_wp2
    go_ret
    exact ⟨ret_bool (Eq.symm (decide_eq_false (fun e => HL.out (by rw [e])))), Same.refl _⟩

def markFrac (k0 : Int) (m : Nat) : List TFrac := (List.range m).map fun j : Nat => (k0 + 2 * (j : Int), k0 + 2 * (j : Int) + 1)
theorem markFrac_at {k0 : Int} {m j : Nat} (h : j < m) : (markFrac k0 m)[j]? = some (k0 + 2 * (j : Int), k0 + 2 * (j : Int) + 1) := by simp [markFrac, h]
theorem markFrac_length (k0 : Int) (m : Nat) : (markFrac k0 m).length = m := by simp [markFrac]

set_option maxHeartbeats 1000000 in
theorem markFracS_any (A : Option Addr) (n c : Nat) (L : List TFrac) (k0 : Int) (w : World) (base : Nat) (hl : L.length = n) (hz : L.length ≤ 2000000) (h0 : 0 ≤ k0) (h1 : k0 ≤ 1000000000) (hA : OwnFrac w base (.slice A n c) L) {lo hi : Nat} (hzn : Zn (.slice A n c) lo hi) :
    Calls Tryz.prog 32 #[.slice A n c, .int .i64 k0] w fun e w' => e = .returned (.int .i64 (k0 + 2 * (n : Int))) ∧ OwnFrac w' base (.slice A n c) (markFrac k0 n) ∧ Upd lo hi w w' := by
  subst hl
  go_enter Tryz.func32, Tryz.ntmps32
  go_wp2
  go_loopw [1, 5] (fun q i wr => ∃ k : Nat, k ≤ L.length ∧ i = .int .i64 k ∧ q = .int .i64 (k0 + 2 * (k : Int)) ∧ OwnFrac wr base (.slice A L.length c) (mix (markFrac k0 L.length) L k) ∧ Upd lo hi w wr) (fun _ i _ => L.length - (intOf i).toNat)
  case atStart => exact ⟨0, Nat.zero_le _, rfl, by simp, by rw [mix_zero]; exact hA, (Same.refl w).upd _ _⟩
  case round =>
    obtain ⟨k, hk, rfl, rfl, hown, hu⟩ := hrel
    by_cases hlt : k < L.length
    · obtain ⟨u, hu'⟩ : ∃ u, (mix (markFrac k0 L.length) L k)[k]? = some u := ⟨_, List.getElem?_eq_getElem (by rw [mix_length (by simp [markFrac]) (by simp [markFrac]; omega)]; simpa [markFrac] using hlt)⟩
      obtain ⟨u0_, u1_⟩ := u
      obtain ⟨g, rfl, hb, hgs, hd, hf⟩ := OwnR.at_ cFrac_len hown hu'
      have hst := hown.set cFrac_len (k := k) (by rw [mix_length (by simp [markFrac]) (by simp [markFrac]; omega)]; simpa [markFrac] using hlt) (k0 + 2 * (k : Int), k0 + 2 * (k : Int) + 1)
      clear hA hu' hown
      have hzg := hzn g rfl
      have d0 := hd 0 _ rfl
      have d1 := hd 1 _ rfl
      simp only [Nat.add_zero] at d0
      clear hd
      have hf0 := hf (k * 2)
      have hf1 := hf (k * 2 + 1)
      clear hf
      go_wp2
      go_roundw
      case rel =>
        refine ⟨k + 1, hlt, by go_num, by go_num, ?_, hu.grown hst.out.2 hzg.1 hzg.2⟩
        have := hst.out.1
        rw [mix_set (markFrac_at hlt) (by simp [markFrac])] at this
        exact this
      case measure => simp [intOf]; omega
    · go_wp2
      go_ret
      refine ⟨ret_int (by omega), ?_, hu⟩
      rwa [mix_full _ _ (by simp [markFrac]; omega) (by simp [markFrac])] at hown

set_option maxHeartbeats 1000000 in
theorem heldFracS_any (A : Option Addr) (n c : Nat) (k0 : Int) (w : World) (hz : n ≤ 2000000) (h0 : 0 ≤ k0) (h1 : k0 ≤ 1000000000) (hA : AtFrac w A (markFrac k0 n)) :
    Calls Tryz.prog 33 #[.slice A n c, .int .i64 k0] w fun e w' => e = .returned (.int .i64 (k0 + 2 * (n : Int))) ∧ Same w w' := by
  go_enter Tryz.func33, Tryz.ntmps33
  go_wp2
  go_loopw [1, 5] (fun q i wr => ∃ k : Nat, k ≤ n ∧ i = .int .i64 k ∧ q = .int .i64 (k0 + 2 * (k : Int)) ∧ Same w wr) (fun _ i _ => n - (intOf i).toNat)
  case atStart => exact ⟨0, Nat.zero_le _, rfl, by simp, Same.refl _⟩
  case round =>
    obtain ⟨k, hk, rfl, rfl, hs⟩ := hrel
    by_cases hlt : k < n
    · obtain ⟨b, off, x, rfl, hc, HX, _⟩ := (hA.same hs).at_ (k := k) (by rw [markFrac_length]; exact hlt)
      obtain rfl : x = (k0 + 2 * (k : Int), k0 + 2 * (k : Int) + 1) := Option.some.inj (HX.out.symm.trans (markFrac_at (k0 := k0) hlt))
      clear hA HX
      have c0 := hc 0 _ rfl
      have c1 := hc 1 _ rfl
      simp only [Nat.add_zero] at c0
      clear hc
      have hb0 : ((k0 + 2 * (k : Int)) != (k0 + 2 * (k : Int))) = false := by simp
      have hb1 : ((k0 + 2 * (k : Int) + 1) != (k0 + 2 * (k : Int) + 1)) = false := by simp
      go_wp2
      go_roundw
      case rel => exact ⟨k + 1, hlt, by go_num, by go_num, hs⟩
      case measure => simp [intOf]; omega
    · go_wp2
      go_ret
      exact ⟨ret_int (by omega), hs⟩
end Go.Proofs.YtjfmknhnplefnaaGreat
