/-
  Plain functions on lists and integers: no Go here.
-/
namespace Go.Proofs.Ytegcfjnjgklchaa
def inB (n lo hi : Int) : Bool := decide (lo ≤ n) && decide (n ≤ hi)
theorem inB_iff {n lo hi : Int} : inB n lo hi = true ↔ lo ≤ n ∧ n ≤ hi := by simp [inB]

/-- p holds of all numbers below. -/
def allTo (p : Nat → Bool) : Nat → Bool
  | 0 => true
  | k + 1 => allTo p k && p k
theorem allTo_false {p : Nat → Bool} {k : Nat} (hp : p k = false) : ∀ {n : Nat}, k < n → allTo p n = false
  | 0, h => absurd h (Nat.not_lt_zero _)
  | n + 1, h => by
    by_cases e : k = n
    · subst e; simp [allTo, hp]
    · simp [allTo, allTo_false hp (show k < n by omega)]
theorem allTo_iff {p : Nat → Bool} : ∀ {n : Nat}, allTo p n = true ↔ ∀ k, k < n → p k = true
  | 0 => by simp [allTo]
  | n + 1 => by
    simp only [allTo, Bool.and_eq_true, allTo_iff (n := n)]
    constructor
    · rintro ⟨h1, h2⟩ k hk
      by_cases e : k = n
      · subst e; exact h2
      · exact h1 k (by omega)
    · intro h
      exact ⟨fun k hk => h k (by omega), h n (by omega)⟩

/-! A row that is being filled -/
def mix {α : Type} (xs zs : List α) (k : Nat) : List α := xs.take k ++ zs.drop k
theorem mix_zero {α : Type} (xs zs : List α) : mix xs zs 0 = zs := by simp [mix]
theorem mix_full {α : Type} (xs zs : List α) {k : Nat} (hk : k = xs.length) (hl : xs.length = zs.length) : mix xs zs k = xs := by
  subst hk; simp [mix, List.drop_of_length_le (show zs.length ≤ xs.length by omega)]
theorem mix_set {α : Type} {x : α} : ∀ {k : Nat} {xs zs : List α}, xs[k]? = some x → xs.length = zs.length → (mix xs zs k).set k x = mix xs zs (k + 1)
  | 0, [], _, hx, _ => by simp at hx
  | 0, a :: xs, [], _, hl => by simp at hl
  | 0, a :: xs, b :: zs, hx, _ => by simp at hx; simp [mix, hx]
  | k + 1, [], _, hx, _ => by simp at hx
  | k + 1, a :: xs, [], _, hl => by simp at hl
  | k + 1, a :: xs, b :: zs, hx, hl => by
    have := mix_set (k := k) (xs := xs) (zs := zs) (by simpa using hx) (by simpa using hl)
    simpa [mix] using this
theorem mix_length {α : Type} {xs zs : List α} {k : Nat} (hl : xs.length = zs.length) (hk : k ≤ xs.length) : (mix xs zs k).length = xs.length := by
  simp [mix]; omega
theorem take_eq_succ {α : Type} {xs ys : List α} {k : Nat} {x : α} (h : xs.take k = ys.take k) (hx : xs[k]? = some x) (hy : ys[k]? = some x) : xs.take (k + 1) = ys.take (k + 1) := by
  rw [List.take_add_one, List.take_add_one, h, hx, hy]

/-! Proofs of life -/
def proofAt (zs : List Int) (k : Nat) : Bool := inB (zs.getD k 0) 0 3599 && (k == 0 || decide (zs.getD (k - 1) 0 < zs.getD k 0))
def proofsOk (zs : List Int) : Bool := allTo (proofAt zs) zs.length && decide (zs.length ≤ 100)
theorem proofsOk_false {zs : List Int} {k : Nat} (hk : k < zs.length) (h : proofAt zs k = false) : false = proofsOk zs := by simp [proofsOk, allTo_false h hk]
theorem proofAt_zero {zs : List Int} {x : Int} (hx : zs[0]? = some x) : proofAt zs 0 = inB x 0 3599 := by simp [proofAt, List.getD, hx]
theorem proofAt_succ {zs : List Int} {j : Nat} {x y : Int} (hx : zs[j]? = some x) (hy : zs[j + 1]? = some y) : proofAt zs (j + 1) = (inB y 0 3599 && decide (x < y)) := by simp [proofAt, List.getD, hx, hy]
end Go.Proofs.Ytegcfjnjgklchaa
