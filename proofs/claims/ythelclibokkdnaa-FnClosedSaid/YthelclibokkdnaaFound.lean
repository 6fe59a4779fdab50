/-
  The first element of a list at which a test holds: plain lists.
-/
namespace Go.Proofs.Ythelclibokkdnaa
/-- r is the first place at which p holds, or -1. -/
def Found {α : Type} (p : α → Bool) (L : List α) (r : Int) : Prop :=
  (r = -1 ∧ L.all (fun x => !p x) = true) ∨ ∃ (k : Nat) (x : α), r = k ∧ L[k]? = some x ∧ p x = true ∧ (L.take k).all (fun x => !p x) = true
theorem all_take_succ {α : Type} {q : α → Bool} {L : List α} {k : Nat} {x : α} (h : (L.take k).all q = true) (hx : L[k]? = some x) (hq : q x = true) : (L.take (k + 1)).all q = true := by
  rw [List.take_add_one, List.all_append, h, hx]
  simp [hq]
theorem Found.any {α : Type} {p : α → Bool} {L : List α} {r : Int} (h : Found p L r) : decide (0 ≤ r) = L.any p := by
  rcases h with ⟨rfl, h⟩ | ⟨k, x, rfl, hx, hp, _⟩
  · have : L.any p = false := by
      rw [List.any_eq_false]
      intro x hx
      simpa using List.all_eq_true.1 h x hx
    rw [this]; rfl
  · have : L.any p = true := List.any_eq_true.2 ⟨x, List.mem_of_getElem? hx, hp⟩
    rw [this]
    simp
theorem all_false {α : Type} {q : α → Bool} {L : List α} {k : Nat} {x : α} (hx : L[k]? = some x) (hq : q x = false) : L.all q = false := by
  rw [List.all_eq_false]
  exact ⟨x, List.mem_of_getElem? hx, by simp [hq]⟩
end Go.Proofs.Ythelclibokkdnaa
