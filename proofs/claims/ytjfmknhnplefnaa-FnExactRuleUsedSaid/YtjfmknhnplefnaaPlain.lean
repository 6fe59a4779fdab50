/-
  Plain functions on lists and integers: no Go here.
-/
namespace Go.Proofs.Ytjfmknhnplefnaa
def inB (n lo hi : Int) : Bool := decide (lo ≤ n) && decide (n ≤ hi)
theorem inB_iff {n lo hi : Int} : inB n lo hi = true ↔ lo ≤ n ∧ n ≤ hi := by simp [inB]

/-- p holds of all numbers below. -/
def allTo (p : Nat → Bool) : Nat → Bool
  | 0 => true
  | k + 1 => allTo p k && p k
theorem allTo_false {p : Nat → Bool} {k : Nat} (hp : p k = false) : ∀ {n : Nat}, k < n → allTo p n = false
  | 0, h => absurd h (Nat.not_lt_zero _)
  | n + 1, h => by
    by_cases e : k = n
    · subst e; simp [allTo, hp]
    · simp [allTo, allTo_false hp (show k < n by omega)]
theorem allTo_iff {p : Nat → Bool} : ∀ {n : Nat}, allTo p n = true ↔ ∀ k, k < n → p k = true
  | 0 => by simp [allTo]
  | n + 1 => by
    simp only [allTo, Bool.and_eq_true, allTo_iff (n := n)]
    constructor
    · rintro ⟨h1, h2⟩ k hk
      by_cases e : k = n
      · subst e; exact h2
      · exact h1 k (by omega)
    · intro h
      exact ⟨fun k hk => h k (by omega), h n (by omega)⟩

/-! A row that is being filled -/
def mix {α : Type} (xs zs : List α) (k : Nat) : List α := xs.take k ++ zs.drop k
theorem mix_zero {α : Type} (xs zs : List α) : mix xs zs 0 = zs := by simp [mix]
theorem mix_full {α : Type} (xs zs : List α) {k : Nat} (hk : k = xs.length) (hl : xs.length = zs.length) : mix xs zs k = xs := by
  subst hk; simp [mix, List.drop_of_length_le (show zs.length ≤ xs.length by omega)]
theorem mix_set {α : Type} {x : α} : ∀ {k : Nat} {xs zs : List α}, xs[k]? = some x → xs.length = zs.length → (mix xs zs k).set k x = mix xs zs (k + 1)
  | 0, [], _, hx, _ => by simp at hx
  | 0, a :: xs, [], _, hl => by simp at hl
  | 0, a :: xs, b :: zs, hx, _ => by simp at hx; simp [mix, hx]
  | k + 1, [], _, hx, _ => by simp at hx
  | k + 1, a :: xs, [], _, hl => by simp at hl
  | k + 1, a :: xs, b :: zs, hx, hl => by
    have := mix_set (k := k) (xs := xs) (zs := zs) (by simpa using hx) (by simpa using hl)
    simpa [mix] using this
theorem mix_length {α : Type} {xs zs : List α} {k : Nat} (hl : xs.length = zs.length) (hk : k ≤ xs.length) : (mix xs zs k).length = xs.length := by
  simp [mix]; omega
theorem take_eq_succ {α : Type} {xs ys : List α} {k : Nat} {x : α} (h : xs.take k = ys.take k) (hx : xs[k]? = some x) (hy : ys[k]? = some x) : xs.take (k + 1) = ys.take (k + 1) := by
  rw [List.take_add_one, List.take_add_one, h, hx, hy]

/-! Proofs of life -/
def proofAt (zs : List Int) (k : Nat) : Bool := inB (zs.getD k 0) 0 3599 && (k == 0 || decide (zs.getD (k - 1) 0 < zs.getD k 0))
def proofsOk (zs : List Int) : Bool := allTo (proofAt zs) zs.length && decide (zs.length ≤ 100)
theorem proofsOk_false {zs : List Int} {k : Nat} (hk : k < zs.length) (h : proofAt zs k = false) : false = proofsOk zs := by simp [proofsOk, allTo_false h hk]
theorem proofAt_zero {zs : List Int} {x : Int} (hx : zs[0]? = some x) : proofAt zs 0 = inB x 0 3599 := by simp [proofAt, List.getD, hx]
theorem proofAt_succ {zs : List Int} {j : Nat} {x y : Int} (hx : zs[j]? = some x) (hy : zs[j + 1]? = some y) : proofAt zs (j + 1) = (inB y 0 3599 && decide (x < y)) := by simp [proofAt, List.getD, hx, hy]
theorem proofsOk_at {zs : List Int} (h : proofsOk zs = true) : ∀ k, k < zs.length → proofAt zs k = true := by
  simp only [proofsOk, Bool.and_eq_true] at h
  exact allTo_iff.1 h.1
theorem proofsOk_range {zs : List Int} (h : proofsOk zs = true) {k : Nat} {x : Int} (hx : zs[k]? = some x) : 0 ≤ x ∧ x ≤ 3599 := by
  have hk := (List.getElem?_eq_some_iff.1 hx).1
  have := proofsOk_at h k hk
  simp [proofAt, List.getD, hx, inB] at this
  omega
theorem proofsOk_len {zs : List Int} (h : proofsOk zs = true) : zs.length ≤ 100 := by
  simp only [proofsOk, Bool.and_eq_true, decide_eq_true_eq] at h; exact h.2
theorem proofsOk_lt {zs : List Int} (h : proofsOk zs = true) : ∀ (d : Nat) {j : Nat} {x y : Int}, zs[j]? = some x → zs[j + 1 + d]? = some y → x < y
  | 0, j, x, y, hx, hy => by
    have hk := (List.getElem?_eq_some_iff.1 hy).1
    have := proofsOk_at h _ hk
    rw [Nat.add_zero] at hy this
    rw [proofAt_succ hx hy] at this
    simp at this
    exact this.2
  | d + 1, j, x, y, hx, hy => by
    have hk := (List.getElem?_eq_some_iff.1 hy).1
    have hz : zs[j + 1 + d]? = some zs[j + 1 + d] := List.getElem?_eq_getElem (by omega)
    have h1 := proofsOk_lt h d hx hz
    have h2 := proofsOk_lt h 0 hz hy
    omega
/-- The last proof up to month m among the first k, or the start. -/
def lastTo (zs : List Int) (start m : Int) : Nat → Int
  | 0 => start
  | k + 1 => if zs.getD k 0 ≤ m then zs.getD k 0 else lastTo zs start m k
theorem lastTo_yes {zs : List Int} {start m x : Int} {k : Nat} (hx : zs[k]? = some x) (h : x ≤ m) : lastTo zs start m (k + 1) = x := by simp [lastTo, List.getD, hx, h]
theorem lastTo_no {zs : List Int} {start m x : Int} {k : Nat} (hx : zs[k]? = some x) (h : m < x) : lastTo zs start m (k + 1) = lastTo zs start m k := by
  simp [lastTo, List.getD, hx, show ¬ x ≤ m by omega]
theorem lastTo_stop {zs : List Int} {start m x : Int} {k : Nat} (hok : proofsOk zs = true) (hx : zs[k]? = some x) (h : m < x) : ∀ d, k + d ≤ zs.length → lastTo zs start m (k + d) = lastTo zs start m k
  | 0, _ => rfl
  | d + 1, hd => by
    have hz : zs[k + d]? = some zs[k + d] := List.getElem?_eq_getElem (by omega)
    have hlt : m < zs[k + d] := by
      rcases d with _ | d
      · have := Option.some.inj (hx.symm.trans hz)
        omega
      · have := proofsOk_lt hok d hx (by rw [show k + 1 + d = k + (d + 1) by omega]; exact hz)
        omega
    rw [show k + (d + 1) = k + d + 1 by omega, lastTo_no hz hlt, lastTo_stop hok hx h d (by omega)]
theorem lastTo_range {zs : List Int} {start m : Int} (hok : proofsOk zs = true) (h0 : 0 ≤ start) (h1 : start ≤ 3599) : ∀ k, 0 ≤ lastTo zs start m k ∧ lastTo zs start m k ≤ 3599
  | 0 => ⟨h0, h1⟩
  | k + 1 => by
    rcases hx : zs[k]? with _ | x
    · by_cases h : (0 : Int) ≤ m
      · simp [lastTo, List.getD, hx, h]
      · simp only [lastTo, List.getD, hx, Option.getD_none, if_neg h]; exact lastTo_range hok h0 h1 k
    · by_cases h : x ≤ m
      · rw [lastTo_yes hx h]; exact proofsOk_range hok hx
      · rw [lastTo_no hx (by omega)]; exact lastTo_range hok h0 h1 k
def lateB (zs : List Int) (start m limit : Int) : Bool := decide (limit < m - lastTo zs start m zs.length)
def suspB (zs : List Int) (start m limit : Int) : Bool := proofsOk zs && inB start 0 3599 && inB m 0 3599 && decide (start ≤ m) && inB limit 1 120 && lateB zs start m limit
/-! Paid months -/
def heldTo (zs : List Int) (start limit : Int) : Nat → Int
  | 0 => 0
  | k + 1 => if lateB zs start (start + (k : Int)) limit = true then heldTo zs start limit k + 1 else 0
def paidTo (zs : List Int) (start limit : Int) : Nat → List Int
  | 0 => []
  | k + 1 => paidTo zs start limit k ++ [if lateB zs start (start + (k : Int)) limit = true then 0 else 1 + heldTo zs start limit k]
theorem heldTo_late {zs : List Int} {start limit : Int} {k : Nat} (h : lateB zs start (start + (k : Int)) limit = true) : heldTo zs start limit (k + 1) = heldTo zs start limit k + 1 := by rw [heldTo, if_pos h]
theorem heldTo_not {zs : List Int} {start limit : Int} {k : Nat} (h : lateB zs start (start + (k : Int)) limit = false) : heldTo zs start limit (k + 1) = 0 := by rw [heldTo, h]; simp
theorem paidTo_late {zs : List Int} {start limit : Int} {k : Nat} (h : lateB zs start (start + (k : Int)) limit = true) : paidTo zs start limit (k + 1) = paidTo zs start limit k ++ [0] := by rw [paidTo, if_pos h]
theorem paidTo_not {zs : List Int} {start limit : Int} {k : Nat} (h : lateB zs start (start + (k : Int)) limit = false) : paidTo zs start limit (k + 1) = paidTo zs start limit k ++ [1 + heldTo zs start limit k] := by rw [paidTo, h]; simp
theorem heldTo_range (zs : List Int) (start limit : Int) : ∀ k : Nat, 0 ≤ heldTo zs start limit k ∧ heldTo zs start limit k ≤ k
  | 0 => by simp [heldTo]
  | k + 1 => by
    have := heldTo_range zs start limit k
    rw [heldTo]; split <;> omega
theorem paidTo_length (zs : List Int) (start limit : Int) : ∀ k : Nat, (paidTo zs start limit k).length = k
  | 0 => rfl
  | k + 1 => by rw [paidTo, List.length_append, paidTo_length zs start limit k]; rfl
def paidOk (zs : List Int) (start to limit : Int) : Bool := proofsOk zs && inB start 0 3599 && inB to 0 3600 && decide (to ≤ start + 600) && inB limit 1 120
def paidL (zs : List Int) (start to limit : Int) : List Int := if paidOk zs start to limit = true then paidTo zs start limit (to - start).toNat else []

/-- The sum of the first k numbers. -/
def sumTo (l : List Int) : Nat → Int
  | 0 => 0
  | k + 1 => sumTo l k + l.getD k 0
theorem sumTo_succ {l : List Int} {k : Nat} {x : Int} (h : l[k]? = some x) : sumTo l (k + 1) = sumTo l k + x := by simp [sumTo, List.getD, h]
theorem sumTo_append (l m : List Int) : ∀ k, k ≤ l.length → sumTo (l ++ m) k = sumTo l k
  | 0, _ => rfl
  | k + 1, h => by
    have : (l ++ m).getD k 0 = l.getD k 0 := by simp [List.getD, List.getElem?_append, show k < l.length by omega]
    rw [sumTo, sumTo, sumTo_append l m k (by omega), this]
theorem sumTo_push (l : List Int) (x : Int) : sumTo (l ++ [x]) (l.length + 1) = sumTo l l.length + x := by
  rw [sumTo, sumTo_append l [x] _ (Nat.le_refl _)]; simp [List.getD]
theorem sumTo_mono {l : List Int} (h : ∀ x ∈ l, 0 ≤ x) {i : Nat} : ∀ d, i + d ≤ l.length → sumTo l i ≤ sumTo l (i + d)
  | 0, _ => Int.le_refl _
  | d + 1, hd => by
    have hx : l[i + d]? = some l[i + d] := List.getElem?_eq_getElem (by omega)
    have h1 := sumTo_mono h (i := i) d (by omega)
    have h2 := h _ (List.mem_of_getElem? hx)
    rw [show i + (d + 1) = i + d + 1 by omega, sumTo_succ hx]
    omega
theorem paidTo_sum (zs : List Int) (start limit : Int) : ∀ k : Nat, sumTo (paidTo zs start limit k) k + heldTo zs start limit k = k
  | 0 => rfl
  | k + 1 => by
    have ih := paidTo_sum zs start limit k
    have hp := fun x => sumTo_push (paidTo zs start limit k) x
    simp only [paidTo_length] at hp
    rw [paidTo, hp, heldTo]
    split <;> omega
theorem paidTo_nonneg (zs : List Int) (start limit : Int) : ∀ k : Nat, ∀ x ∈ paidTo zs start limit k, 0 ≤ x
  | 0, x, h => by simp [paidTo] at h
  | k + 1, x, h => by
    rw [paidTo, List.mem_append] at h
    rcases h with h | h
    · exact paidTo_nonneg zs start limit k x h
    · have := heldTo_range zs start limit k
      simp at h
      split at h <;> omega
def heldBack (zs : List Int) (start to limit : Int) : Int := if paidOk zs start to limit = true then heldTo zs start limit (to - start).toNat else 0
theorem paidL_nonneg (zs : List Int) (start to limit : Int) : ∀ x ∈ paidL zs start to limit, 0 ≤ x := by
  unfold paidL; split
  · exact paidTo_nonneg _ _ _ _
  · simp
theorem paidOk_and {zs : List Int} {start to limit : Int} (h : paidOk zs start to limit = true) : proofsOk zs = true ∧ (0 ≤ start ∧ start ≤ 3599) ∧ (0 ≤ to ∧ to ≤ 3600) ∧ to ≤ start + 600 ∧ (1 ≤ limit ∧ limit ≤ 120) := by
  simp only [paidOk, Bool.and_eq_true, inB_iff, decide_eq_true_eq] at h
  obtain ⟨⟨⟨⟨h1, h2⟩, h3⟩, h4⟩, h5⟩ := h
  exact ⟨h1, h2, h3, h4, h5⟩
theorem paidL_length {zs : List Int} {start to limit : Int} : (paidL zs start to limit).length ≤ 600 := by
  unfold paidL; split
  · rename_i h
    have := paidOk_and h
    rw [paidTo_length]; omega
  · simp
theorem heldBack_eq (zs : List Int) (start to limit : Int) : heldBack zs start to limit = (paidL zs start to limit).length - sumTo (paidL zs start to limit) (paidL zs start to limit).length := by
  unfold heldBack paidL; split
  · have := paidTo_sum zs start limit (to - start).toNat
    rw [paidTo_length]; omega
  · rfl
theorem sumTo_paid {zs : List Int} {start to limit : Int} {k : Nat} (hk : k ≤ (paidL zs start to limit).length) : 0 ≤ sumTo (paidL zs start to limit) k ∧ sumTo (paidL zs start to limit) k ≤ 600 := by
  have h0 := sumTo_mono (paidL_nonneg zs start to limit) (i := 0) k (by omega)
  have h1 := sumTo_mono (paidL_nonneg zs start to limit) (i := k) ((paidL zs start to limit).length - k) (by omega)
  rw [Nat.zero_add] at h0
  rw [show k + ((paidL zs start to limit).length - k) = (paidL zs start to limit).length by omega] at h1
  have h2 := heldBack_eq zs start to limit
  have h3 := paidL_length (zs := zs) (start := start) (to := to) (limit := limit)
  have h4 : 0 ≤ heldBack zs start to limit := by
    unfold heldBack; split
    · exact (heldTo_range _ _ _ _).1
    · exact Int.le_refl _
  have h5 : sumTo (paidL zs start to limit) 0 = 0 := rfl
  omega
theorem allTo_congr {p q : Nat → Bool} : ∀ {n : Nat}, (∀ k, k < n → p k = q k) → allTo p n = allTo q n
  | 0, _ => rfl
  | n + 1, h => by rw [allTo, allTo, allTo_congr (n := n) (fun k hk => h k (by omega)), h n (by omega)]
theorem proofsOk_push {zs : List Int} {m : Int} (h : proofsOk zs = true) (hlt : ∀ x ∈ zs, x < m) (h0 : 0 ≤ m) (h1 : m ≤ 3599) (hl : zs.length < 100) : proofsOk (zs ++ [m]) = true := by
  have hm : (zs ++ [m])[zs.length]? = some m := by simp
  have hold : ∀ k, k < zs.length → (zs ++ [m])[k]? = zs[k]? := fun k hk => by rw [List.getElem?_append_left hk]
  rw [proofsOk, Bool.and_eq_true]
  refine ⟨?_, by simp; omega⟩
  rw [List.length_append, List.length_singleton, allTo, Bool.and_eq_true]
  constructor
  · rw [allTo_congr (q := proofAt zs) (fun k hk => by unfold proofAt List.getD; rw [hold k hk, hold (k - 1) (by omega)])]
    simp only [proofsOk, Bool.and_eq_true] at h
    exact h.1
  · rcases hz : zs.length with _ | j
    · rw [hz] at hm
      rw [proofAt_zero hm]; simp [inB]; omega
    · have hj : (zs ++ [m])[j]? = some zs[j] := by rw [hold j (by omega)]; exact List.getElem?_eq_getElem (by omega)
      rw [hz] at hm
      rw [proofAt_succ hj hm]
      have := hlt zs[j] (List.getElem_mem _)
      simp [inB]; omega
theorem paidTo_at {zs : List Int} {start limit : Int} {k : Nat} : ∀ d, (paidTo zs start limit (k + 1 + d))[k]? = some (if lateB zs start (start + (k : Int)) limit = true then 0 else 1 + heldTo zs start limit k)
  | 0 => by rw [Nat.add_zero, paidTo]; simp [paidTo_length]
  | d + 1 => by
    rw [show k + 1 + (d + 1) = k + 1 + d + 1 by omega, paidTo, List.getElem?_append_left (by rw [paidTo_length]; omega)]
    exact paidTo_at d
theorem sumTo_paidTo (zs : List Int) (start limit : Int) {k : Nat} : ∀ d, sumTo (paidTo zs start limit (k + d)) k = sumTo (paidTo zs start limit k) k
  | 0 => rfl
  | d + 1 => by
    rw [show k + (d + 1) = k + d + 1 by omega, paidTo, sumTo_append _ _ _ (by rw [paidTo_length]; omega)]
    exact sumTo_paidTo zs start limit d
def Places (zs : List Int) : Prop := zs.length = 12 ∧ ∀ x ∈ zs, 0 ≤ x ∧ x ≤ 9999
theorem Places.get {zs : List Int} (h : Places zs) {k : Nat} (hk : k < 12) : ∃ x, zs[k]? = some x ∧ 0 ≤ x ∧ x ≤ 9999 :=
  ⟨zs[k]'(by rw [h.1]; exact hk), List.getElem?_eq_getElem _, h.2 _ (List.getElem_mem _)⟩
/-! Brackets of a tax -/
abbrev TBracket := Int × Int
def brkAt (L : List TBracket) (k : Nat) : Bool :=
  inB (L.getD k (0, 0)).1 0 1000000000 && inB (L.getD k (0, 0)).2 0 1000 && (k != 0 || decide ((L.getD k (0, 0)).1 = 0)) && (k == 0 || decide ((L.getD (k - 1) (0, 0)).1 < (L.getD k (0, 0)).1))
def bracketsOk (L : List TBracket) : Bool := allTo (brkAt L) L.length && inB L.length 1 10
theorem bracketsOk_false {L : List TBracket} {k : Nat} (hk : k < L.length) (h : brkAt L k = false) : false = bracketsOk L := by simp [bracketsOk, allTo_false h hk]
theorem brkAt_zero {L : List TBracket} {f r : Int} (hx : L[0]? = some (f, r)) : brkAt L 0 = (inB f 0 1000000000 && inB r 0 1000 && decide (f = 0)) := by simp [brkAt, List.getD, hx]
theorem brkAt_succ {L : List TBracket} {j : Nat} {f r pf pr : Int} (hx : L[j]? = some (pf, pr)) (hy : L[j + 1]? = some (f, r)) : brkAt L (j + 1) = (inB f 0 1000000000 && inB r 0 1000 && decide (pf < f)) := by simp [brkAt, List.getD, hx, hy]
def taxed (L : List TBracket) (y : Int) : Bool := bracketsOk L && inB y 0 1000000000
theorem brk_range {L : List TBracket} (h : bracketsOk L = true) {k : Nat} {f r : Int} (hx : L[k]? = some (f, r)) : (0 ≤ f ∧ f ≤ 1000000000) ∧ (0 ≤ r ∧ r ≤ 1000) := by
  have hk := (List.getElem?_eq_some_iff.1 hx).1
  simp only [bracketsOk, Bool.and_eq_true] at h
  have := allTo_iff.1 h.1 k hk
  simp [brkAt, List.getD, hx, inB] at this
  omega
theorem brk_len {L : List TBracket} (h : bracketsOk L = true) : 1 ≤ L.length ∧ L.length ≤ 10 := by
  simp only [bracketsOk, Bool.and_eq_true, inB_iff] at h
  omega
theorem brk_lt {L : List TBracket} (h : bracketsOk L = true) {k : Nat} {f r nf nr : Int} (hx : L[k]? = some (f, r)) (hy : L[k + 1]? = some (nf, nr)) : f < nf := by
  have hk := (List.getElem?_eq_some_iff.1 hy).1
  simp only [bracketsOk, Bool.and_eq_true] at h
  have := allTo_iff.1 h.1 (k + 1) hk
  rw [brkAt_succ hx hy] at this
  simp at this
  omega
theorem brk_first {L : List TBracket} (h : bracketsOk L = true) : ∃ r, L[0]? = some (0, r) := by
  have hl := brk_len h
  obtain ⟨⟨f, r⟩, hx⟩ : ∃ x, L[0]? = some x := ⟨_, List.getElem?_eq_getElem (by omega)⟩
  simp only [bracketsOk, Bool.and_eq_true] at h
  have := allTo_iff.1 h.1 0 (by omega)
  rw [brkAt_zero hx] at this
  simp at this
  exact ⟨r, by rw [hx, this.2]⟩
/-- The rate of the last of the first k brackets that begins at y or below. -/
def rateTo (L : List TBracket) (y : Int) : Nat → Int
  | 0 => 0
  | k + 1 => if (L.getD k (0, 0)).1 ≤ y then (L.getD k (0, 0)).2 else rateTo L y k
theorem rateTo_yes {L : List TBracket} {y f r : Int} {k : Nat} (hx : L[k]? = some (f, r)) (h : f ≤ y) : rateTo L y (k + 1) = r := by simp [rateTo, List.getD, hx, h]
theorem rateTo_no {L : List TBracket} {y f r : Int} {k : Nat} (hx : L[k]? = some (f, r)) (h : y < f) : rateTo L y (k + 1) = rateTo L y k := by simp [rateTo, List.getD, hx, show ¬ f ≤ y by omega]
def marginal (L : List TBracket) (y : Int) : Int := if taxed L y = true then rateTo L y L.length else 0
def topAt (L : List TBracket) (y : Int) (k : Nat) : Int := if k + 1 < L.length then (if (L.getD (k + 1) (0, 0)).1 < y then (L.getD (k + 1) (0, 0)).1 else y) else y
def taxTo (L : List TBracket) (y : Int) : Nat → Int
  | 0 => 0
  | k + 1 => taxTo L y k + (if (L.getD k (0, 0)).1 < topAt L y k then topAt L y k - (L.getD k (0, 0)).1 else 0) * (L.getD k (0, 0)).2
theorem taxTo_succ {L : List TBracket} {y f r : Int} {k : Nat} (hx : L[k]? = some (f, r)) : taxTo L y (k + 1) = taxTo L y k + (if f < topAt L y k then topAt L y k - f else 0) * r := by simp [taxTo, List.getD, hx]
theorem topAt_last {L : List TBracket} {y : Int} {k : Nat} (h : ¬ k + 1 < L.length) : topAt L y k = y := by simp [topAt, h]
theorem topAt_next {L : List TBracket} {y nf nr : Int} {k : Nat} (hx : L[k + 1]? = some (nf, nr)) : topAt L y k = if nf < y then nf else y := by
  have hk := (List.getElem?_eq_some_iff.1 hx).1
  rw [topAt, if_pos hk, show L.getD (k + 1) (0, 0) = (nf, nr) by rw [List.getD, hx]; rfl]
theorem topAt_le (L : List TBracket) (y : Int) (k : Nat) : topAt L y k ≤ y := by
  unfold topAt; split
  · split <;> omega
  · omega
theorem taxTerm_range {f r top : Int} (h0 : 0 ≤ f) (h1 : 0 ≤ r) (h2 : r ≤ 1000) (h3 : top ≤ 1000000000) : 0 ≤ (if f < top then top - f else 0) * r ∧ (if f < top then top - f else 0) * r ≤ 1000000000000 := by
  split
  · have a := Int.mul_nonneg (show 0 ≤ top - f by omega) h1
    have b : (top - f) * r ≤ (top - f) * 1000 := Int.mul_le_mul_of_nonneg_left h2 (by omega)
    omega
  · simp
theorem taxTo_range {L : List TBracket} {y : Int} (h : bracketsOk L = true) (hy : y ≤ 1000000000) : ∀ k : Nat, k ≤ L.length → 0 ≤ taxTo L y k ∧ taxTo L y k ≤ 1000000000000 * (k : Int)
  | 0, _ => by simp [taxTo]
  | k + 1, hk => by
    obtain ⟨⟨f, r⟩, hx⟩ : ∃ x, L[k]? = some x := ⟨_, List.getElem?_eq_getElem (by omega)⟩
    have hr := brk_range h hx
    have ih := taxTo_range h hy k (by omega)
    have ht := taxTerm_range (f := f) (r := r) (top := topAt L y k) hr.1.1 hr.2.1 hr.2.2 (by have := topAt_le L y k; omega)
    rw [taxTo_succ hx]
    omega
def taxFor (L : List TBracket) (y : Int) : Int := if taxed L y = true then taxTo L y L.length / 1000 else 0
/-! A year's amount over twelve months -/
def spreadAt (total : Int) (j : Nat) : Int := ((j : Int) + 1) * total / 12 - (j : Int) * total / 12
def spreadTo (total : Int) (n : Nat) : List Int := (List.range n).map (spreadAt total)
theorem spreadTo_succ (total : Int) (n : Nat) : spreadTo total (n + 1) = spreadTo total n ++ [spreadAt total n] := by simp [spreadTo, List.range_succ]
theorem spreadTo_length (total : Int) (n : Nat) : (spreadTo total n).length = n := by simp [spreadTo]
theorem spread_mul {total : Int} {j : Nat} (h0 : 0 ≤ total) (h1 : total ≤ 1000000000) (hj : j ≤ 12) : 0 ≤ (j : Int) * total ∧ (j : Int) * total ≤ 12000000000 := by
  have a := Int.mul_nonneg (show (0 : Int) ≤ j by omega) h0
  have b : (j : Int) * total ≤ 12 * total := Int.mul_le_mul_of_nonneg_right (by omega) h0
  omega
theorem spreadTo_at {total : Int} {n j : Nat} (h : j < n) : (spreadTo total n)[j]? = some (spreadAt total j) := by simp [spreadTo, h]
theorem spread_sum (total : Int) (n : Nat) : ∀ k, k ≤ n → sumTo (spreadTo total n) k = (k : Int) * total / 12
  | 0, _ => by simp [sumTo]
  | k + 1, h => by
    rw [sumTo_succ (spreadTo_at (by omega)), spread_sum total n k (by omega), spreadAt]
    rw [show ((k + 1 : Nat) : Int) = (k : Int) + 1 by omega]
    omega
/-- How much of z lies below bracket k. -/
def baseAt (L : List TBracket) (z : Int) (k : Nat) : Int := if k < L.length then (if (L.getD k (0, 0)).1 < z then (L.getD k (0, 0)).1 else z) else z
theorem getD_some {α : Type} {L : List α} {k : Nat} {x d : α} (h : L[k]? = some x) : L.getD k d = x := by rw [List.getD, h]; rfl
theorem baseAt_some {L : List TBracket} {z f r : Int} {k : Nat} (hx : L[k]? = some (f, r)) : baseAt L z k = if f < z then f else z := by
  have hk := (List.getElem?_eq_some_iff.1 hx).1
  rw [baseAt, if_pos hk, getD_some hx]
theorem baseAt_end {L : List TBracket} {z : Int} {k : Nat} (hk : ¬ k < L.length) : baseAt L z k = z := by rw [baseAt, if_neg hk]
theorem baseAt_step {L : List TBracket} {z f r : Int} {k : Nat} (h : bracketsOk L = true) (hx : L[k]? = some (f, r)) :
    baseAt L z (k + 1) = baseAt L z k + (if f < topAt L z k then topAt L z k - f else 0) := by
  by_cases hk : k + 1 < L.length
  · obtain ⟨⟨nf, nr⟩, hy⟩ : ∃ x, L[k + 1]? = some x := ⟨_, List.getElem?_eq_getElem hk⟩
    have := brk_lt h hx hy
    rw [baseAt_some hx, baseAt_some hy, topAt_next hy]
    split <;> split <;> (try split) <;> omega
  · rw [baseAt_some hx, baseAt_end hk, topAt_last hk]
    split <;> omega
theorem taxTo_le {L : List TBracket} {y : Int} (h : bracketsOk L = true) (hy : 0 ≤ y) : ∀ k : Nat, k ≤ L.length → taxTo L y k ≤ 1000 * baseAt L y k
  | 0, _ => by
    obtain ⟨r, hx⟩ := brk_first h
    rw [taxTo, baseAt_some hx]
    split <;> omega
  | k + 1, hk => by
    obtain ⟨⟨f, r⟩, hx⟩ : ∃ x, L[k]? = some x := ⟨_, List.getElem?_eq_getElem (by omega)⟩
    have hr := brk_range h hx
    have ih := taxTo_le h hy k (by omega)
    rw [taxTo_succ hx, baseAt_step h hx]
    have hm : (if f < topAt L y k then topAt L y k - f else 0) * r ≤ (if f < topAt L y k then topAt L y k - f else 0) * 1000 := Int.mul_le_mul_of_nonneg_left hr.2.2 (by split <;> omega)
    omega
theorem taxFor_range {L : List TBracket} {y : Int} : 0 ≤ taxFor L y ∧ taxFor L y ≤ 1000000000 ∧ (taxed L y = true → taxFor L y ≤ y) := by
  unfold taxFor
  by_cases h : taxed L y = true
  · rw [if_pos h]
    have h' := h
    simp only [taxed, Bool.and_eq_true, inB_iff] at h'
    obtain ⟨hok, h0, h1⟩ := h'
    have a := taxTo_range hok h1 L.length (Nat.le_refl _)
    have b := taxTo_le hok h0 L.length (Nat.le_refl _)
    rw [baseAt_end (by omega)] at b
    exact ⟨by omega, by omega, fun _ => by omega⟩
  · rw [if_neg h]
    exact ⟨by omega, by omega, fun h' => absurd h' h⟩
theorem bracketsOk_push {L : List TBracket} {f r : Int} (h : allTo (brkAt L) L.length = true) (hf : inB f 0 1000000000 = true) (hr : inB r 0 1000 = true) (h0 : L = [] → f = 0) (hlt : ∀ x ∈ L, x.1 < f) :
    allTo (brkAt (L ++ [(f, r)])) (L ++ [(f, r)]).length = true := by
  have hm : (L ++ [(f, r)])[L.length]? = some (f, r) := by simp
  have hold : ∀ k, k < L.length → (L ++ [(f, r)])[k]? = L[k]? := fun k hk => by rw [List.getElem?_append_left hk]
  rw [List.length_append, List.length_singleton, allTo, Bool.and_eq_true]
  constructor
  · rw [allTo_congr (q := brkAt L) (fun k hk => by unfold brkAt List.getD; rw [hold k hk, hold (k - 1) (by omega)])]
    exact h
  · rcases hz : L.length with _ | j
    · rw [hz] at hm
      rw [brkAt_zero hm, hf, hr, h0 (List.length_eq_zero_iff.1 hz)]; rfl
    · have hj : (L ++ [(f, r)])[j]? = some L[j] := by rw [hold j (by omega)]; exact List.getElem?_eq_getElem (by omega)
      rw [hz] at hm
      rw [brkAt_succ (pf := L[j].1) (pr := L[j].2) hj hm, hf, hr]
      have := hlt L[j] (List.getElem_mem _)
      simpa using this
def monthly (L : List TBracket) (y : Int) : List Int := if taxed L y = true then spreadTo (taxFor L y) 12 else []
def netYear (L : List TBracket) (y : Int) : Int := if taxed L y = true then y - taxFor L y else 0
end Go.Proofs.Ytjfmknhnplefnaa
