/-
  A debt that is recovered month by month: plain lists.
-/
import Derived.Test.YtmpeohmhkhhooaaPlain
import Derived.Test.YtmpeohmhkhhooaaFound
namespace Go.Proofs.Ytmpeohmhkhhooaa

def recOk (debt : Int) (zs : List Int) (pct : Int) : Bool := zs.all (fun z => inB z 0 10000000) && inB debt 0 1000000000 && inB pct 0 100 && decide (zs.length ≤ 600)
/-- The part of month k's amount that may be withheld. -/
def share (zs : List Int) (pct : Int) (k : Nat) : Int := (zs.getD k 0 * pct) / 100
/-- What is still owed behind k months. -/
def owed (debt : Int) (zs : List Int) (pct : Int) : Nat → Int
  | 0 => debt
  | k + 1 => owed debt zs pct k - min (owed debt zs pct k) (share zs pct k)
def planTo (debt : Int) (zs : List Int) (pct : Int) : Nat → List Int
  | 0 => []
  | k + 1 => planTo debt zs pct k ++ [min (owed debt zs pct k) (share zs pct k)]
def plan (debt : Int) (zs : List Int) (pct : Int) : List Int := if recOk debt zs pct = true then planTo debt zs pct zs.length else []
theorem recOk_and {debt pct : Int} {zs : List Int} (h : recOk debt zs pct = true) : (∀ z ∈ zs, 0 ≤ z ∧ z ≤ 10000000) ∧ (0 ≤ debt ∧ debt ≤ 1000000000) ∧ (0 ≤ pct ∧ pct ≤ 100) ∧ zs.length ≤ 600 := by
  simp only [recOk, Bool.and_eq_true, inB_iff, decide_eq_true_eq, List.all_eq_true] at h
  exact ⟨h.1.1.1, h.1.1.2, h.1.2, h.2⟩
theorem share_at {zs : List Int} {pct x : Int} {k : Nat} (hx : zs[k]? = some x) : share zs pct k = (x * pct) / 100 := by simp [share, List.getD, hx]
theorem share_range {debt pct : Int} {zs : List Int} (h : recOk debt zs pct = true) (k : Nat) : 0 ≤ share zs pct k ∧ share zs pct k ≤ 10000000 := by
  obtain ⟨hz, _, hp, _⟩ := recOk_and h
  have hg : 0 ≤ zs.getD k 0 ∧ zs.getD k 0 ≤ 10000000 := by
    rcases hx : zs[k]? with _ | x
    · simp [List.getD, hx]
    · simp [List.getD, hx]; exact hz x (List.mem_of_getElem? hx)
  have a0 : 0 ≤ zs.getD k 0 * pct := Int.mul_nonneg hg.1 hp.1
  have a1 : zs.getD k 0 * pct ≤ 10000000 * 100 := Int.mul_le_mul hg.2 hp.2 hp.1 (by omega)
  unfold share
  omega
theorem owed_range {debt pct : Int} {zs : List Int} (h : recOk debt zs pct = true) : ∀ k, 0 ≤ owed debt zs pct k ∧ owed debt zs pct k ≤ debt
  | 0 => ⟨(recOk_and h).2.1.1, Int.le_refl _⟩
  | k + 1 => by
    have h1 := owed_range h k
    have h2 := share_range h k
    rw [owed]
    omega
theorem owed_succ {debt pct x : Int} {zs : List Int} {k : Nat} (hx : zs[k]? = some x) : owed debt zs pct (k + 1) = owed debt zs pct k - min (owed debt zs pct k) ((x * pct) / 100) := by rw [owed, share_at hx]
theorem planTo_succ {debt pct x : Int} {zs : List Int} {k : Nat} (hx : zs[k]? = some x) : planTo debt zs pct (k + 1) = planTo debt zs pct k ++ [min (owed debt zs pct k) ((x * pct) / 100)] := by rw [planTo, share_at hx]
theorem planTo_length (debt : Int) (zs : List Int) (pct : Int) : ∀ k : Nat, (planTo debt zs pct k).length = k
  | 0 => rfl
  | k + 1 => by rw [planTo, List.length_append, planTo_length debt zs pct k]; rfl
theorem planTo_at (debt : Int) (zs : List Int) (pct : Int) : ∀ (n : Nat) {k : Nat}, k < n → (planTo debt zs pct n)[k]? = some (min (owed debt zs pct k) (share zs pct k))
  | 0, k, h => absurd h (Nat.not_lt_zero _)
  | n + 1, k, h => by
    by_cases e : k = n
    · subst e
      rw [planTo, List.getElem?_append_right (by rw [planTo_length]; omega), planTo_length]
      simp
    · rw [planTo, List.getElem?_append_left (by rw [planTo_length]; omega)]
      exact planTo_at debt zs pct n (by omega)
theorem plan_yes {debt pct : Int} {zs : List Int} (h : recOk debt zs pct = true) : plan debt zs pct = planTo debt zs pct zs.length := by rw [plan, if_pos h]
theorem plan_no {debt pct : Int} {zs : List Int} (h : recOk debt zs pct = false) : plan debt zs pct = [] := by rw [plan, h]; simp
theorem plan_len (debt : Int) (zs : List Int) (pct : Int) : (plan debt zs pct).length ≤ 600000 := by
  unfold plan; split
  · rename_i h
    rw [planTo_length]
    have := (recOk_and h).2.2.2
    omega
  · simp
/-- The first number from k at which f is 0, among d. -/
def zeroFrom (f : Nat → Int) : Nat → Nat → Int
  | _, 0 => -1
  | k, d + 1 => if f k = 0 then k else zeroFrom f (k + 1) d
theorem zeroFrom_yes {f : Nat → Int} {k d : Nat} (h : f k = 0) : zeroFrom f k (d + 1) = k := by simp [zeroFrom, h]
theorem zeroFrom_no {f : Nat → Int} {k d : Nat} (h : f k ≠ 0) : zeroFrom f k (d + 1) = zeroFrom f (k + 1) d := by simp [zeroFrom, h]
def recoveredBy (debt : Int) (zs : List Int) (pct : Int) : Int := if recOk debt zs pct = true then zeroFrom (owed debt zs pct) 0 (zs.length + 1) else -1
def waived (debt : Int) (zs : List Int) (pct : Int) : Int := if recOk debt zs pct = true then owed debt zs pct zs.length else 0
def netTo (zs P : List Int) : Nat → List Int
  | 0 => []
  | k + 1 => netTo zs P k ++ [zs.getD k 0 - P.getD k 0]
theorem netTo_length (zs P : List Int) : ∀ k : Nat, (netTo zs P k).length = k
  | 0 => rfl
  | k + 1 => by rw [netTo, List.length_append, netTo_length zs P k]; rfl
theorem netTo_succ {zs P : List Int} {k : Nat} {x y : Int} (hx : zs[k]? = some x) (hy : P[k]? = some y) : netTo zs P (k + 1) = netTo zs P k ++ [x - y] := by simp [netTo, List.getD, hx, hy]
def netAmounts (debt : Int) (zs : List Int) (pct : Int) : List Int := netTo zs (plan debt zs pct) (plan debt zs pct).length
theorem netAmounts_len (debt : Int) (zs : List Int) (pct : Int) : (netAmounts debt zs pct).length ≤ 600000 := by rw [netAmounts, netTo_length]; exact plan_len debt zs pct
theorem recOk_debt {debt pct d : Int} {zs : List Int} (h : recOk debt zs pct = true) (hd : 0 ≤ d ∧ d ≤ debt) : recOk d zs pct = true := by
  have h1 := (recOk_and h).2.1
  simp only [recOk, Bool.and_eq_true] at h ⊢
  exact ⟨⟨⟨h.1.1.1, inB_iff.2 (by omega)⟩, h.1.2⟩, h.2⟩
theorem share_facts {debt pct x : Int} {zs : List Int} {k : Nat} (h : recOk debt zs pct = true) (hx : zs[k]? = some x) : 0 ≤ x ∧ x ≤ 10000000 ∧ 0 ≤ x * pct ∧ x * pct ≤ 1000000000 := by
  obtain ⟨hz, _, hp, _⟩ := recOk_and h
  have hg := hz x (List.mem_of_getElem? hx)
  have a0 : 0 ≤ x * pct := Int.mul_nonneg hg.1 hp.1
  have a1 : x * pct ≤ 10000000 * 100 := Int.mul_le_mul hg.2 hp.2 hp.1 (by omega)
  omega
theorem owed_end {debt pct : Int} {zs : List Int} (h : recOk debt zs pct = true) : owed debt zs pct (zs.length + 1) = owed debt zs pct zs.length := by
  have h1 := owed_range h zs.length
  have hs : share zs pct zs.length = 0 := by simp [share, List.getD]
  rw [owed, hs]
  omega
theorem plan_short (debt : Int) (zs : List Int) (pct : Int) : (plan debt zs pct).length ≤ zs.length ∧ (plan debt zs pct).length ≤ 600 := by
  unfold plan; split
  · rename_i h
    rw [planTo_length]
    exact ⟨Nat.le_refl _, (recOk_and h).2.2.2⟩
  · simp
theorem plan_at {debt pct : Int} {zs : List Int} {k : Nat} (h : recOk debt zs pct = true) (hk : k < zs.length) : (plan debt zs pct)[k]? = some (min (owed debt zs pct k) (share zs pct k)) := by
  rw [plan_yes h]; exact planTo_at debt zs pct _ hk
theorem plan_facts (debt : Int) (zs : List Int) (pct : Int) : ∀ (k : Nat) (x y : Int), (plan debt zs pct)[k]? = some x → zs[k]? = some y → (0 ≤ x ∧ x ≤ 10000000) ∧ (0 ≤ y ∧ y ≤ 10000000) := by
  intro k x y hx hy
  cases h : recOk debt zs pct
  · rw [plan_no h] at hx; simp at hx
  · rw [plan_at h (List.getElem?_eq_some_iff.1 hy).1] at hx
    have hx := Option.some.inj hx
    have h1 := share_range h k
    have h2 := owed_range h k
    have h3 := (recOk_and h).1 y (List.mem_of_getElem? hy)
    omega
end Go.Proofs.Ytmpeohmhkhhooaa
