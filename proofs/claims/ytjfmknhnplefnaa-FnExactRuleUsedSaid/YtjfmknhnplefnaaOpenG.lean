/-
  What came in, opened: slices of structs of any kind.
-/
import Derived.Test.YtjfmknhnplefnaaOpenS
namespace Go.Proofs.Ytjfmknhnplefnaa
open Go.RowKit Go.ChangeShapes Go.WideShapes Go.Deep

theorem list_of {τ : Type} {p : Nat → τ → Prop} : ∀ n : Nat, (∀ i, i < n → ∃ y, p i y) → ∃ L : List τ, L.length = n ∧ ∀ i y, L[i]? = some y → p i y
  | 0, _ => ⟨[], rfl, fun i y h => by simp at h⟩
  | n + 1, h => by
    obtain ⟨L, hl, hp⟩ := list_of n fun i hi => h i (by omega)
    obtain ⟨y, hy⟩ := h n (by omega)
    refine ⟨L ++ [y], by simp [hl], fun i z hz => ?_⟩
    by_cases hi : i < n
    · rw [List.getElem?_append_left (by omega)] at hz
      exact hp i z hz
    · have hlt := (List.getElem?_eq_some_iff.1 hz).1
      simp at hlt
      obtain rfl : i = n := by omega
      rw [List.getElem?_append_right (by omega), hl] at hz
      simp at hz
      subst hz
      exact hy

section
variable {H : Type} {enc : TypeId × Value → H} {P : Program} {w : World} {base : Nat} {held : Bool}

/-- A slice of structs whose elements can be opened. -/
theorem open_recsG {τ : Type} {n : Nat} {cells : τ → List Value} {Good : τ → Prop} (hn : 0 < n) {t e : TypeId} {fuel : Nat} {cs : List Value} {x : DataW H × List MemPlace} (ht : P.underlying t = some (.slice e)) (hC : P.cellsOf e = n)
    (hE : ∀ (fuel : Nat) (cs : List Value) (x : DataW H × List MemPlace), DataW.trod enc P w base (fun _ => true) held fuel e cs = some x → ∃ y, cs = cells y ∧ Good y) (hlen : ∀ y, (cells y).length = n)
    (h : DataW.trod enc P w base (fun _ => true) held fuel t cs = some x) :
    ∃ (A : Option Addr) (c : Nat) (L : List τ), cs = [.slice A L.length c] ∧ RecAt n cells w A L ∧ L.length ≤ 9223372036854775807 ∧ ∀ y ∈ L, Good y := by
  rcases open_slice ht h with ⟨hcs, _⟩ | ⟨a, len, cap, m, fu, D, Pl, hcs, _, hlc, hcm, hmm, _, hel⟩
  · exact ⟨none, 0, [], hcs, .inl rfl, by simp, fun y hy => (List.not_mem_nil hy).elim⟩
  · have hml : len ≤ m := by rw [hmm]; split <;> omega
    obtain ⟨L, hl, hL⟩ := list_of (τ := τ) (p := fun i y => (∀ j v, (cells y)[j]? = some v → w.cell? (a.add (i * n + j)) = some v) ∧ Good y) len fun i hi => by
      obtain ⟨cs', hc, htr⟩ := hel i (by omega)
      obtain ⟨y, rfl, hg⟩ := hE _ _ _ htr
      rw [hC] at hc
      obtain ⟨_, _, hat⟩ := World.cells?_some hc
      refine ⟨y, fun j v hv => ?_, hg⟩
      have hj := (List.getElem?_eq_some_iff.1 hv).1
      have := hat j (by rw [hlen] at hj; exact hj)
      rw [← Go.Deep.add_add] at *
      rw [this]
      exact hv
    refine ⟨some a, cap, L, by rw [hl]; exact hcs, ?_, by unfold maxLen at hcm; omega, fun y hy => ?_⟩
    · rcases L with _ | ⟨y0, L0⟩
      · exact .inl rfl
      · obtain ⟨b, off, spot⟩ := a
        have h0 := (hL 0 y0 rfl).1 0 ((cells y0)[0]'(by rw [hlen]; exact hn)) (List.getElem?_eq_getElem _)
        have hspot : spot = none := by simpa [Addr.add] using World.cell?_spot h0
        subst hspot
        have hb : b < w.heap.size := by
          have := World.block_lt_of_cell? w _ h0
          rw [Addr.add_lit] at this
          exact this
        refine .inr ⟨b, off, rfl, hb, fun k y hy j v hv => ?_⟩
        have := (hL k y hy).1 j v hv
        rw [Addr.add_lit] at this
        rw [Nat.add_assoc]
        exact this
    · obtain ⟨i, hi, rfl⟩ := List.mem_iff_getElem.1 hy
      exact (hL i _ (List.getElem?_eq_getElem hi)).2
end
end Go.Proofs.Ytjfmknhnplefnaa
