/-
  Service in a span (the specification's side).
-/
import Derived.Test.YtjfmknhnplefnaaGreatZKindAt
import Derived.Test.YtjfmknhnplefnaaGreatZMonthsIn
namespace Go.Proofs.YtjfmknhnplefnaaGreat
open Go.RowKit
set_option linter.unusedVariables false
set_option linter.unusedSimpArgs false

theorem spells_pc {S : List TSpell} {k : Nat} {f t p : Int} {b : Bool} (h : spellsOk S = true) (hx : S[k]? = some (f, t, p, b)) : 1 ≤ p ∧ p ≤ 100 := by
  have hk : k < S.length := (List.getElem?_eq_some_iff.1 hx).1
  simp only [spellsOk, Bool.and_eq_true] at h
  have he := allTo_iff.1 h.1 _ hk
  simp only [spellAt, Bool.and_eq_true, spellOk, List.getD, hx, Option.getD_some] at he
  exact inB_iff.1 he.1.2
theorem svTo_range {S : List TSpell} (a b : Int) (h : spellsOk S = true) : ∀ k, k ≤ S.length → 0 ≤ svTo S a b k ∧ svTo S a b k ≤ 360000 * k
  | 0, _ => by simp [svTo]
  | k + 1, hk => by
    have ih := svTo_range a b h k (by omega)
    obtain ⟨⟨f, t, p, l⟩, hx⟩ : ∃ x, S[k]? = some x := ⟨_, List.getElem?_eq_getElem (by omega)⟩
    have hp := spells_pc h hx
    have hm := monthsIn_range f t a b
    rw [svTo_succ hx]
    unfold svOf
    have h1 : 0 ≤ p * monthsIn f t a b := Int.mul_nonneg (by omega) hm.1
    have h2 : p * monthsIn f t a b ≤ 100 * 3600 := Int.mul_le_mul hp.2 hm.2 hm.1 (by omega)
    obtain ⟨z, hz⟩ : ∃ z, z = p * monthsIn f t a b := ⟨_, rfl⟩
    rw [← hz] at h1 h2
    cases l
    · simp only [Bool.false_eq_true, if_false]
      rw [← hz]
      omega
    · simp only [if_true]
      omega

set_option maxRecDepth 10000 in
set_option maxHeartbeats 2000000 in
theorem sServiceIn_any (A : Option Addr) (c : Nat) (L : List TSpell) (fr to : Int) (w : World) (hz : L.length ≤ 1048576) (hA : AtSpell w A L) :
    Calls Tryz.prog 135 #[.slice A L.length c, .int .i64 fr, .int .i64 to] w fun e w' => e = .returned (.int .i64 (serviceIn L fr to)) ∧ Same w w' := by
  have HR := Lib.hid (show serviceIn L fr to = if spellsOk L = true then svTo L fr to L.length else 0 from rfl)
  have HE := Lib.hid (fun w (h : AtSpell w A L) => sSpellsOk_any A c L w hz h)
  cases hk : spellsOk L
  · rw [hk] at HE
    have HV := Lib.hid (show serviceIn L fr to = 0 by rw [HR.out, hk]; rfl)
    clear hk HR
    go_enter Tryz.func135, Tryz.ntmps135
    go_wp2
    go_loopw [7, 8] (fun t5 i wr => i = .int .i64 0 ∧ t5 = .int .i64 0 ∧ Same w wr) (fun _ i _ => 0)
    case atStart => exact ⟨rfl, rfl, Same.refl _⟩
    case round =>
      obtain ⟨rfl, rfl, hs⟩ := hrel
      by_cases h0 : 0 < L.length
      · go_wp2_with fail
        refine (HE.out _ (hA.same hs)).mono ?_
        rintro e w1 ⟨rfl, hs1⟩
        go_wp2
        go_ret
        exact ⟨ret_int HV.out.symm, hs.trans hs1⟩
      · go_wp2
        go_ret
        exact ⟨ret_int HV.out.symm, hs⟩
  · rw [hk] at HE
    have HV := Lib.hid (show serviceIn L fr to = svTo L fr to L.length by rw [HR.out, hk]; rfl)
    have HK := Lib.hid hk
    clear hk HR
    go_enter Tryz.func135, Tryz.ntmps135
    go_wp2
    go_loopw [7, 8] (fun t5 i wr => ∃ k : Nat, k ≤ L.length ∧ i = .int .i64 k ∧ t5 = .int .i64 (svTo L fr to k) ∧ Same w wr) (fun _ i _ => L.length - (intOf i).toNat)
    case atStart => exact ⟨0, Nat.zero_le _, rfl, rfl, Same.refl _⟩
    case round =>
      obtain ⟨k, hk, rfl, rfl, hs⟩ := hrel
      by_cases hlt : k < L.length
      · go_wp2_with fail
        refine (HE.out _ (hA.same hs)).mono ?_
        rintro e w1 ⟨rfl, hs1⟩
        obtain ⟨b, off, x, rfl, hc, HX, hbl⟩ := (hA.same (hs.trans hs1)).at_ hlt
        obtain ⟨f0, f1, f2, f3⟩ := x
        have hp := spells_pc HK.out HX.out
        have hsv := svTo_range fr to HK.out k (by omega)
        have hmm := monthsIn_range f0 f1 fr to
        have HS := Lib.hid (svTo_succ (a := fr) (b := to) HX.out)
        have HM := Lib.hid (fun w => sMonthsIn_any f0 f1 fr to w)
        have HO : Hid (svOf (f0, f1, f2, f3) fr to = if f3 = true then 0 else f2 * monthsIn f0 f1 fr to) := rfl
        obtain ⟨mi, hmi⟩ : ∃ mi, mi = monthsIn f0 f1 fr to := ⟨_, rfl⟩
        obtain ⟨sv, hsv2⟩ : ∃ sv, sv = svTo L fr to k := ⟨_, rfl⟩
        rw [← hmi] at HM HO hmm
        rw [← hsv2] at HS hsv ⊢
        clear hmi hsv2
        have h1 : 0 ≤ f2 * mi := Int.mul_nonneg (by omega) hmm.1
        have h2 : f2 * mi ≤ 100 * 3600 := Int.mul_le_mul hp.2 hmm.2 hmm.1 (by omega)
        have d0 := hc 0 _ rfl
        have d1 := hc 1 _ rfl
        have d2 := hc 2 _ rfl
        have d3 := hc 3 _ rfl
        simp only [Nat.add_zero] at d0 d1 d2 d3
        clear hc HX
        cases f3
        · have HT := Lib.hid (show svTo L fr to (k + 1) = sv + f2 * mi by rw [HS.out, HO.out]; simp)
          go_wp2
          go_quiet ((go_at_call 112; with_reducible exact quiet_left (HM.out _)))
          go_wp2
          go_roundw
          case rel => exact ⟨k + 1, hlt, by go_num, by rw [HT.out], (hs.trans hs1).drewN _⟩
          case measure => simp [intOf]; omega
        · have HT := Lib.hid (show svTo L fr to (k + 1) = sv by rw [HS.out, HO.out]; simp)
          go_wp2
          go_roundw
          case rel => exact ⟨k + 1, hlt, by go_num, by rw [HT.out], hs.trans hs1⟩
          case measure => simp [intOf]; omega
      · obtain rfl : k = L.length := by omega
        go_wp2
        go_ret
        exact ⟨ret_int HV.out.symm, hs⟩
end Go.Proofs.YtjfmknhnplefnaaGreat
