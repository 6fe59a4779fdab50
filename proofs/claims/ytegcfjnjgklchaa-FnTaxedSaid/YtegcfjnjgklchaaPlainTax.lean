/-
  Taxes grow with the amount, by at most the marginal rate: plain numbers, no Go here.
-/
import Derived.Test.YtegcfjnjgklchaaPlain
namespace Go.Proofs.Ytegcfjnjgklchaa
def widthAt (L : List TBracket) (z f : Int) (k : Nat) : Int := if f < topAt L z k then topAt L z k - f else 0
theorem brk_gt {L : List TBracket} {y nf nr : Int} {k : Nat} (h : bracketsOk L = true) (hx : L[k]? = some (nf, nr)) (hy : y < nf) : ∀ (d : Nat) (g s : Int), L[k + d]? = some (g, s) → y < g
  | 0, g, s, hg => by
    have := Option.some.inj (hx.symm.trans hg)
    simp at this; omega
  | d + 1, g, s, hg => by
    have hk := (List.getElem?_eq_some_iff.1 hg).1
    obtain ⟨⟨f, r⟩, hf⟩ : ∃ x, L[k + d]? = some x := ⟨_, List.getElem?_eq_getElem (by omega)⟩
    have h1 := brk_gt h hx hy d f r hf
    have h2 := brk_lt h hf hg
    omega
theorem rateTo_stays {L : List TBracket} {y nf nr : Int} {k : Nat} (h : bracketsOk L = true) (hx : L[k]? = some (nf, nr)) (hy : y < nf) : ∀ d, k + d ≤ L.length → rateTo L y (k + d) = rateTo L y k
  | 0, _ => rfl
  | d + 1, hd => by
    obtain ⟨⟨f, r⟩, hf⟩ : ∃ x, L[k + d]? = some x := ⟨_, List.getElem?_eq_getElem (by omega)⟩
    rw [show k + (d + 1) = k + d + 1 by omega, rateTo_no hf (brk_gt h hx hy d f r hf)]
    exact rateTo_stays h hx hy d (by omega)
theorem width_mono (L : List TBracket) {y z f : Int} (hyz : y ≤ z) (k : Nat) : 0 ≤ widthAt L y f k ∧ widthAt L y f k ≤ widthAt L z f k := by
  have ht : topAt L y k ≤ topAt L z k := by
    unfold topAt
    split
    · split <;> split <;> omega
    · exact hyz
  unfold widthAt
  split <;> split <;> omega
/-- where the widths differ the rate is one of those that count -/
theorem rate_counts {L : List TBracket} {y f r T : Int} {k : Nat} (h : bracketsOk L = true) (hx : L[k]? = some (f, r)) (hT : rateTo L y L.length ≤ T)
    (hj : ∀ (j : Nat) (g s : Int), L[j]? = some (g, s) → y < g → g ≤ y + 1000 → s ≤ T) (hne : widthAt L y f k ≠ widthAt L (y + 1000) f k) : r ≤ T := by
  have hk := (List.getElem?_eq_some_iff.1 hx).1
  by_cases hf : y < f
  · refine hj k f r hx hf ?_
    by_cases hg : f ≤ y + 1000
    · exact hg
    · exfalso; apply hne
      have h1 := topAt_le L y k
      have h2 := topAt_le L (y + 1000) k
      rw [widthAt, widthAt, if_neg (by omega), if_neg (by omega)]
  · have hr : rateTo L y (k + 1) = r := rateTo_yes hx (by omega)
    by_cases hl : k + 1 < L.length
    · obtain ⟨⟨nf, nr⟩, hn⟩ : ∃ x, L[k + 1]? = some x := ⟨_, List.getElem?_eq_getElem hl⟩
      by_cases hy : y < nf
      · have := rateTo_stays h hn hy (L.length - (k + 1)) (by omega)
        rw [show k + 1 + (L.length - (k + 1)) = L.length by omega, hr] at this
        omega
      · exfalso; apply hne
        rw [widthAt, widthAt, topAt_next hn, topAt_next hn]
        by_cases e : nf = y
        · rw [if_neg (show ¬ nf < y by omega), if_pos (show nf < y + 1000 by omega), e]
        · rw [if_pos (show nf < y by omega), if_pos (show nf < y + 1000 by omega)]
    · rw [show L.length = k + 1 by omega, hr] at hT
      exact hT
theorem taxTo_diff {L : List TBracket} {y T : Int} (h : bracketsOk L = true) (hy : 0 ≤ y) (hT0 : 0 ≤ T) (hT : rateTo L y L.length ≤ T)
    (hj : ∀ (j : Nat) (g s : Int), L[j]? = some (g, s) → y < g → g ≤ y + 1000 → s ≤ T) :
    ∀ k : Nat, k ≤ L.length → taxTo L y k ≤ taxTo L (y + 1000) k ∧ taxTo L (y + 1000) k - taxTo L y k ≤ T * (baseAt L (y + 1000) k - baseAt L y k)
  | 0, _ => by
    obtain ⟨r, hx⟩ := brk_first h
    rw [taxTo, taxTo, baseAt_some hx, baseAt_some hx]
    refine ⟨by omega, ?_⟩
    have h1 : (if (0 : Int) < y + 1000 then (0 : Int) else y + 1000) = 0 := by split <;> omega
    have h2 : (if (0 : Int) < y then (0 : Int) else y) = 0 := by split <;> omega
    rw [h1, h2]; simp
  | k + 1, hk => by
    obtain ⟨⟨f, r⟩, hx⟩ : ∃ x, L[k]? = some x := ⟨_, List.getElem?_eq_getElem (by omega)⟩
    have hr := brk_range h hx
    obtain ⟨ih1, ih2⟩ := taxTo_diff h hy hT0 hT hj k (by omega)
    have hw := width_mono L (y := y) (z := y + 1000) (f := f) (by omega) k
    rw [taxTo_succ hx, taxTo_succ hx, baseAt_step h hx, baseAt_step h hx]
    change taxTo L y k + widthAt L y f k * r ≤ taxTo L (y + 1000) k + widthAt L (y + 1000) f k * r ∧
      taxTo L (y + 1000) k + widthAt L (y + 1000) f k * r - (taxTo L y k + widthAt L y f k * r) ≤ T * (baseAt L (y + 1000) k + widthAt L (y + 1000) f k - (baseAt L y k + widthAt L y f k))
    generalize hA : widthAt L y f k = a at *
    generalize hB : widthAt L (y + 1000) f k = b at *
    have m1 : a * r ≤ b * r := Int.mul_le_mul_of_nonneg_right hw.2 hr.2.1
    have m2 : (b - a) * r ≤ (b - a) * T := by
      by_cases e : a = b
      · subst e; simp
      · have := rate_counts h hx hT hj (by rw [hA, hB]; exact e)
        exact Int.mul_le_mul_of_nonneg_left this (by omega)
    have m3 : (b - a) * r = b * r - a * r := Int.sub_mul _ _ _
    have m4 : T * (baseAt L (y + 1000) k + b - (baseAt L y k + a)) = T * (baseAt L (y + 1000) k - baseAt L y k) + (b - a) * T := by
      rw [show baseAt L (y + 1000) k + b - (baseAt L y k + a) = (baseAt L (y + 1000) k - baseAt L y k) + (b - a) by omega, Int.mul_add, Int.mul_comm T (b - a)]
    omega
theorem taxFor_diff {L : List TBracket} {y T : Int} (h : bracketsOk L = true) (hy : 0 ≤ y) (hy1 : y + 1000 ≤ 1000000000) (hT0 : 0 ≤ T) (hT : marginal L y ≤ T)
    (hj : ∀ (j : Nat) (g s : Int), L[j]? = some (g, s) → y < g → g ≤ y + 1000 → s ≤ T) : taxFor L y ≤ taxFor L (y + 1000) ∧ taxFor L (y + 1000) - taxFor L y ≤ T + 1 := by
  have t1 : taxed L y = true := by rw [taxed, h]; simp [inB]; omega
  have t2 : taxed L (y + 1000) = true := by rw [taxed, h]; simp [inB]; omega
  rw [marginal, if_pos t1] at hT
  have := taxTo_diff h hy hT0 hT hj L.length (Nat.le_refl _)
  rw [baseAt_end (by omega), baseAt_end (by omega), show y + 1000 - y = 1000 by omega] at this
  rw [taxFor, if_pos t1, taxFor, if_pos t2]
  omega
theorem rateTo_range {L : List TBracket} {y : Int} (h : bracketsOk L = true) : ∀ k, k ≤ L.length → 0 ≤ rateTo L y k ∧ rateTo L y k ≤ 1000
  | 0, _ => by simp [rateTo]
  | k + 1, hk => by
    obtain ⟨⟨f, r⟩, hx⟩ : ∃ x, L[k]? = some x := ⟨_, List.getElem?_eq_getElem (by omega)⟩
    by_cases hf : f ≤ y
    · rw [rateTo_yes hx hf]; exact (brk_range h hx).2
    · rw [rateTo_no hx (by omega)]; exact rateTo_range h k (by omega)
theorem marginal_range {L : List TBracket} {y : Int} (h : bracketsOk L = true) : 0 ≤ marginal L y ∧ marginal L y ≤ 1000 := by
  unfold marginal; split
  · exact rateTo_range h _ (Nat.le_refl _)
  · omega
end Go.Proofs.Ytegcfjnjgklchaa
