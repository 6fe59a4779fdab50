/- Joined of Plain, PlainCase, PlainAt, PlainFrac, PlainEval, Found: what is proved stands ahead of each part. -/

section
/-
  Plain functions on lists and integers: no Go here.
-/
namespace Go.Proofs.YtjfmknhnplefnaaGreat
def inB (n lo hi : Int) : Bool := decide (lo ≤ n) && decide (n ≤ hi)
theorem inB_iff {n lo hi : Int} : inB n lo hi = true ↔ lo ≤ n ∧ n ≤ hi := by simp [inB]

/-- p holds of all numbers below. -/
def allTo (p : Nat → Bool) : Nat → Bool
  | 0 => true
  | k + 1 => allTo p k && p k
theorem allTo_false {p : Nat → Bool} {k : Nat} (hp : p k = false) : ∀ {n : Nat}, k < n → allTo p n = false
  | 0, h => absurd h (Nat.not_lt_zero _)
  | n + 1, h => by
    by_cases e : k = n
    · subst e; simp [allTo, hp]
    · simp [allTo, allTo_false hp (show k < n by omega)]
theorem allTo_iff {p : Nat → Bool} : ∀ {n : Nat}, allTo p n = true ↔ ∀ k, k < n → p k = true
  | 0 => by simp [allTo]
  | n + 1 => by
    simp only [allTo, Bool.and_eq_true, allTo_iff (n := n)]
    constructor
    · rintro ⟨h1, h2⟩ k hk
      by_cases e : k = n
      · subst e; exact h2
      · exact h1 k (by omega)
    · intro h
      exact ⟨fun k hk => h k (by omega), h n (by omega)⟩

/-! A row that is being filled -/
def mix {α : Type} (xs zs : List α) (k : Nat) : List α := xs.take k ++ zs.drop k
theorem mix_zero {α : Type} (xs zs : List α) : mix xs zs 0 = zs := by simp [mix]
theorem mix_full {α : Type} (xs zs : List α) {k : Nat} (hk : k = xs.length) (hl : xs.length = zs.length) : mix xs zs k = xs := by
  subst hk; simp [mix, List.drop_of_length_le (show zs.length ≤ xs.length by omega)]
theorem mix_set {α : Type} {x : α} : ∀ {k : Nat} {xs zs : List α}, xs[k]? = some x → xs.length = zs.length → (mix xs zs k).set k x = mix xs zs (k + 1)
  | 0, [], _, hx, _ => by simp at hx
  | 0, a :: xs, [], _, hl => by simp at hl
  | 0, a :: xs, b :: zs, hx, _ => by simp at hx; simp [mix, hx]
  | k + 1, [], _, hx, _ => by simp at hx
  | k + 1, a :: xs, [], _, hl => by simp at hl
  | k + 1, a :: xs, b :: zs, hx, hl => by
    have := mix_set (k := k) (xs := xs) (zs := zs) (by simpa using hx) (by simpa using hl)
    simpa [mix] using this
theorem mix_length {α : Type} {xs zs : List α} {k : Nat} (hl : xs.length = zs.length) (hk : k ≤ xs.length) : (mix xs zs k).length = xs.length := by
  simp [mix]; omega
theorem take_eq_succ {α : Type} {xs ys : List α} {k : Nat} {x : α} (h : xs.take k = ys.take k) (hx : xs[k]? = some x) (hy : ys[k]? = some x) : xs.take (k + 1) = ys.take (k + 1) := by
  rw [List.take_add_one, List.take_add_one, h, hx, hy]

/-! Proofs of life -/
def proofAt (zs : List Int) (k : Nat) : Bool := inB (zs.getD k 0) 0 3599 && (k == 0 || decide (zs.getD (k - 1) 0 < zs.getD k 0))
def proofsOk (zs : List Int) : Bool := allTo (proofAt zs) zs.length && decide (zs.length ≤ 100)
theorem proofsOk_false {zs : List Int} {k : Nat} (hk : k < zs.length) (h : proofAt zs k = false) : false = proofsOk zs := by simp [proofsOk, allTo_false h hk]
theorem proofAt_zero {zs : List Int} {x : Int} (hx : zs[0]? = some x) : proofAt zs 0 = inB x 0 3599 := by simp [proofAt, List.getD, hx]
theorem proofAt_succ {zs : List Int} {j : Nat} {x y : Int} (hx : zs[j]? = some x) (hy : zs[j + 1]? = some y) : proofAt zs (j + 1) = (inB y 0 3599 && decide (x < y)) := by simp [proofAt, List.getD, hx, hy]
theorem proofsOk_at {zs : List Int} (h : proofsOk zs = true) : ∀ k, k < zs.length → proofAt zs k = true := by
  simp only [proofsOk, Bool.and_eq_true] at h
  exact allTo_iff.1 h.1
theorem proofsOk_range {zs : List Int} (h : proofsOk zs = true) {k : Nat} {x : Int} (hx : zs[k]? = some x) : 0 ≤ x ∧ x ≤ 3599 := by
  have hk := (List.getElem?_eq_some_iff.1 hx).1
  have := proofsOk_at h k hk
  simp [proofAt, List.getD, hx, inB] at this
  omega
theorem proofsOk_len {zs : List Int} (h : proofsOk zs = true) : zs.length ≤ 100 := by
  simp only [proofsOk, Bool.and_eq_true, decide_eq_true_eq] at h; exact h.2
theorem proofsOk_lt {zs : List Int} (h : proofsOk zs = true) : ∀ (d : Nat) {j : Nat} {x y : Int}, zs[j]? = some x → zs[j + 1 + d]? = some y → x < y
  | 0, j, x, y, hx, hy => by
    have hk := (List.getElem?_eq_some_iff.1 hy).1
    have := proofsOk_at h _ hk
    rw [Nat.add_zero] at hy this
    rw [proofAt_succ hx hy] at this
    simp at this
    exact this.2
  | d + 1, j, x, y, hx, hy => by
    have hk := (List.getElem?_eq_some_iff.1 hy).1
    have hz : zs[j + 1 + d]? = some zs[j + 1 + d] := List.getElem?_eq_getElem (by omega)
    have h1 := proofsOk_lt h d hx hz
    have h2 := proofsOk_lt h 0 hz hy
    omega
/-- The last proof up to month m among the first k, or the start. -/
def lastTo (zs : List Int) (start m : Int) : Nat → Int
  | 0 => start
  | k + 1 => if zs.getD k 0 ≤ m then zs.getD k 0 else lastTo zs start m k
theorem lastTo_yes {zs : List Int} {start m x : Int} {k : Nat} (hx : zs[k]? = some x) (h : x ≤ m) : lastTo zs start m (k + 1) = x := by simp [lastTo, List.getD, hx, h]
theorem lastTo_no {zs : List Int} {start m x : Int} {k : Nat} (hx : zs[k]? = some x) (h : m < x) : lastTo zs start m (k + 1) = lastTo zs start m k := by
  simp [lastTo, List.getD, hx, show ¬ x ≤ m by omega]
theorem lastTo_stop {zs : List Int} {start m x : Int} {k : Nat} (hok : proofsOk zs = true) (hx : zs[k]? = some x) (h : m < x) : ∀ d, k + d ≤ zs.length → lastTo zs start m (k + d) = lastTo zs start m k
  | 0, _ => rfl
  | d + 1, hd => by
    have hz : zs[k + d]? = some zs[k + d] := List.getElem?_eq_getElem (by omega)
    have hlt : m < zs[k + d] := by
      rcases d with _ | d
      · have := Option.some.inj (hx.symm.trans hz)
        omega
      · have := proofsOk_lt hok d hx (by rw [show k + 1 + d = k + (d + 1) by omega]; exact hz)
        omega
    rw [show k + (d + 1) = k + d + 1 by omega, lastTo_no hz hlt, lastTo_stop hok hx h d (by omega)]
theorem lastTo_range {zs : List Int} {start m : Int} (hok : proofsOk zs = true) (h0 : 0 ≤ start) (h1 : start ≤ 3599) : ∀ k, 0 ≤ lastTo zs start m k ∧ lastTo zs start m k ≤ 3599
  | 0 => ⟨h0, h1⟩
  | k + 1 => by
    rcases hx : zs[k]? with _ | x
    · by_cases h : (0 : Int) ≤ m
      · simp [lastTo, List.getD, hx, h]
      · simp only [lastTo, List.getD, hx, Option.getD_none, if_neg h]; exact lastTo_range hok h0 h1 k
    · by_cases h : x ≤ m
      · rw [lastTo_yes hx h]; exact proofsOk_range hok hx
      · rw [lastTo_no hx (by omega)]; exact lastTo_range hok h0 h1 k
def lateB (zs : List Int) (start m limit : Int) : Bool := decide (limit < m - lastTo zs start m zs.length)
def suspB (zs : List Int) (start m limit : Int) : Bool := proofsOk zs && inB start 0 3599 && inB m 0 3599 && decide (start ≤ m) && inB limit 1 120 && lateB zs start m limit
/-! Paid months -/
def heldTo (zs : List Int) (start limit : Int) : Nat → Int
  | 0 => 0
  | k + 1 => if lateB zs start (start + (k : Int)) limit = true then heldTo zs start limit k + 1 else 0
def paidTo (zs : List Int) (start limit : Int) : Nat → List Int
  | 0 => []
  | k + 1 => paidTo zs start limit k ++ [if lateB zs start (start + (k : Int)) limit = true then 0 else 1 + heldTo zs start limit k]
theorem heldTo_late {zs : List Int} {start limit : Int} {k : Nat} (h : lateB zs start (start + (k : Int)) limit = true) : heldTo zs start limit (k + 1) = heldTo zs start limit k + 1 := by rw [heldTo, if_pos h]
theorem heldTo_not {zs : List Int} {start limit : Int} {k : Nat} (h : lateB zs start (start + (k : Int)) limit = false) : heldTo zs start limit (k + 1) = 0 := by rw [heldTo, h]; simp
theorem paidTo_late {zs : List Int} {start limit : Int} {k : Nat} (h : lateB zs start (start + (k : Int)) limit = true) : paidTo zs start limit (k + 1) = paidTo zs start limit k ++ [0] := by rw [paidTo, if_pos h]
theorem paidTo_not {zs : List Int} {start limit : Int} {k : Nat} (h : lateB zs start (start + (k : Int)) limit = false) : paidTo zs start limit (k + 1) = paidTo zs start limit k ++ [1 + heldTo zs start limit k] := by rw [paidTo, h]; simp
theorem heldTo_range (zs : List Int) (start limit : Int) : ∀ k : Nat, 0 ≤ heldTo zs start limit k ∧ heldTo zs start limit k ≤ k
  | 0 => by simp [heldTo]
  | k + 1 => by
    have := heldTo_range zs start limit k
    rw [heldTo]; split <;> omega
theorem paidTo_length (zs : List Int) (start limit : Int) : ∀ k : Nat, (paidTo zs start limit k).length = k
  | 0 => rfl
  | k + 1 => by rw [paidTo, List.length_append, paidTo_length zs start limit k]; rfl
def paidOk (zs : List Int) (start to limit : Int) : Bool := proofsOk zs && inB start 0 3599 && inB to 0 3600 && decide (to ≤ start + 600) && inB limit 1 120
def paidL (zs : List Int) (start to limit : Int) : List Int := if paidOk zs start to limit = true then paidTo zs start limit (to - start).toNat else []

/-- The sum of the first k numbers. -/
def sumTo (l : List Int) : Nat → Int
  | 0 => 0
  | k + 1 => sumTo l k + l.getD k 0
theorem sumTo_succ {l : List Int} {k : Nat} {x : Int} (h : l[k]? = some x) : sumTo l (k + 1) = sumTo l k + x := by simp [sumTo, List.getD, h]
theorem sumTo_append (l m : List Int) : ∀ k, k ≤ l.length → sumTo (l ++ m) k = sumTo l k
  | 0, _ => rfl
  | k + 1, h => by
    have : (l ++ m).getD k 0 = l.getD k 0 := by simp [List.getD, List.getElem?_append, show k < l.length by omega]
    rw [sumTo, sumTo, sumTo_append l m k (by omega), this]
theorem sumTo_push (l : List Int) (x : Int) : sumTo (l ++ [x]) (l.length + 1) = sumTo l l.length + x := by
  rw [sumTo, sumTo_append l [x] _ (Nat.le_refl _)]; simp [List.getD]
theorem sumTo_mono {l : List Int} (h : ∀ x ∈ l, 0 ≤ x) {i : Nat} : ∀ d, i + d ≤ l.length → sumTo l i ≤ sumTo l (i + d)
  | 0, _ => Int.le_refl _
  | d + 1, hd => by
    have hx : l[i + d]? = some l[i + d] := List.getElem?_eq_getElem (by omega)
    have h1 := sumTo_mono h (i := i) d (by omega)
    have h2 := h _ (List.mem_of_getElem? hx)
    rw [show i + (d + 1) = i + d + 1 by omega, sumTo_succ hx]
    omega
theorem paidTo_sum (zs : List Int) (start limit : Int) : ∀ k : Nat, sumTo (paidTo zs start limit k) k + heldTo zs start limit k = k
  | 0 => rfl
  | k + 1 => by
    have ih := paidTo_sum zs start limit k
    have hp := fun x => sumTo_push (paidTo zs start limit k) x
    simp only [paidTo_length] at hp
    rw [paidTo, hp, heldTo]
    split <;> omega
theorem paidTo_nonneg (zs : List Int) (start limit : Int) : ∀ k : Nat, ∀ x ∈ paidTo zs start limit k, 0 ≤ x
  | 0, x, h => by simp [paidTo] at h
  | k + 1, x, h => by
    rw [paidTo, List.mem_append] at h
    rcases h with h | h
    · exact paidTo_nonneg zs start limit k x h
    · have := heldTo_range zs start limit k
      simp at h
      split at h <;> omega
def heldBack (zs : List Int) (start to limit : Int) : Int := if paidOk zs start to limit = true then heldTo zs start limit (to - start).toNat else 0
theorem paidL_nonneg (zs : List Int) (start to limit : Int) : ∀ x ∈ paidL zs start to limit, 0 ≤ x := by
  unfold paidL; split
  · exact paidTo_nonneg _ _ _ _
  · simp
theorem paidOk_and {zs : List Int} {start to limit : Int} (h : paidOk zs start to limit = true) : proofsOk zs = true ∧ (0 ≤ start ∧ start ≤ 3599) ∧ (0 ≤ to ∧ to ≤ 3600) ∧ to ≤ start + 600 ∧ (1 ≤ limit ∧ limit ≤ 120) := by
  simp only [paidOk, Bool.and_eq_true, inB_iff, decide_eq_true_eq] at h
  obtain ⟨⟨⟨⟨h1, h2⟩, h3⟩, h4⟩, h5⟩ := h
  exact ⟨h1, h2, h3, h4, h5⟩
theorem paidL_length {zs : List Int} {start to limit : Int} : (paidL zs start to limit).length ≤ 600 := by
  unfold paidL; split
  · rename_i h
    have := paidOk_and h
    rw [paidTo_length]; omega
  · simp
theorem heldBack_eq (zs : List Int) (start to limit : Int) : heldBack zs start to limit = (paidL zs start to limit).length - sumTo (paidL zs start to limit) (paidL zs start to limit).length := by
  unfold heldBack paidL; split
  · have := paidTo_sum zs start limit (to - start).toNat
    rw [paidTo_length]; omega
  · rfl
theorem sumTo_paid {zs : List Int} {start to limit : Int} {k : Nat} (hk : k ≤ (paidL zs start to limit).length) : 0 ≤ sumTo (paidL zs start to limit) k ∧ sumTo (paidL zs start to limit) k ≤ 600 := by
  have h0 := sumTo_mono (paidL_nonneg zs start to limit) (i := 0) k (by omega)
  have h1 := sumTo_mono (paidL_nonneg zs start to limit) (i := k) ((paidL zs start to limit).length - k) (by omega)
  rw [Nat.zero_add] at h0
  rw [show k + ((paidL zs start to limit).length - k) = (paidL zs start to limit).length by omega] at h1
  have h2 := heldBack_eq zs start to limit
  have h3 := paidL_length (zs := zs) (start := start) (to := to) (limit := limit)
  have h4 : 0 ≤ heldBack zs start to limit := by
    unfold heldBack; split
    · exact (heldTo_range _ _ _ _).1
    · exact Int.le_refl _
  have h5 : sumTo (paidL zs start to limit) 0 = 0 := rfl
  omega
theorem allTo_congr {p q : Nat → Bool} : ∀ {n : Nat}, (∀ k, k < n → p k = q k) → allTo p n = allTo q n
  | 0, _ => rfl
  | n + 1, h => by rw [allTo, allTo, allTo_congr (n := n) (fun k hk => h k (by omega)), h n (by omega)]
theorem proofsOk_push {zs : List Int} {m : Int} (h : proofsOk zs = true) (hlt : ∀ x ∈ zs, x < m) (h0 : 0 ≤ m) (h1 : m ≤ 3599) (hl : zs.length < 100) : proofsOk (zs ++ [m]) = true := by
  have hm : (zs ++ [m])[zs.length]? = some m := by simp
  have hold : ∀ k, k < zs.length → (zs ++ [m])[k]? = zs[k]? := fun k hk => by rw [List.getElem?_append_left hk]
  rw [proofsOk, Bool.and_eq_true]
  refine ⟨?_, by simp; omega⟩
  rw [List.length_append, List.length_singleton, allTo, Bool.and_eq_true]
  constructor
  · rw [allTo_congr (q := proofAt zs) (fun k hk => by unfold proofAt List.getD; rw [hold k hk, hold (k - 1) (by omega)])]
    simp only [proofsOk, Bool.and_eq_true] at h
    exact h.1
  · rcases hz : zs.length with _ | j
    · rw [hz] at hm
      rw [proofAt_zero hm]; simp [inB]; omega
    · have hj : (zs ++ [m])[j]? = some zs[j] := by rw [hold j (by omega)]; exact List.getElem?_eq_getElem (by omega)
      rw [hz] at hm
      rw [proofAt_succ hj hm]
      have := hlt zs[j] (List.getElem_mem _)
      simp [inB]; omega
theorem paidTo_at {zs : List Int} {start limit : Int} {k : Nat} : ∀ d, (paidTo zs start limit (k + 1 + d))[k]? = some (if lateB zs start (start + (k : Int)) limit = true then 0 else 1 + heldTo zs start limit k)
  | 0 => by rw [Nat.add_zero, paidTo]; simp [paidTo_length]
  | d + 1 => by
    rw [show k + 1 + (d + 1) = k + 1 + d + 1 by omega, paidTo, List.getElem?_append_left (by rw [paidTo_length]; omega)]
    exact paidTo_at d
theorem sumTo_paidTo (zs : List Int) (start limit : Int) {k : Nat} : ∀ d, sumTo (paidTo zs start limit (k + d)) k = sumTo (paidTo zs start limit k) k
  | 0 => rfl
  | d + 1 => by
    rw [show k + (d + 1) = k + d + 1 by omega, paidTo, sumTo_append _ _ _ (by rw [paidTo_length]; omega)]
    exact sumTo_paidTo zs start limit d
def Places (zs : List Int) : Prop := zs.length = 12 ∧ ∀ x ∈ zs, 0 ≤ x ∧ x ≤ 9999
theorem Places.get {zs : List Int} (h : Places zs) {k : Nat} (hk : k < 12) : ∃ x, zs[k]? = some x ∧ 0 ≤ x ∧ x ≤ 9999 :=
  ⟨zs[k]'(by rw [h.1]; exact hk), List.getElem?_eq_getElem _, h.2 _ (List.getElem_mem _)⟩
/-! Brackets of a tax -/
abbrev TBracket := Int × Int
def brkAt (L : List TBracket) (k : Nat) : Bool :=
  inB (L.getD k (0, 0)).1 0 1000000000 && inB (L.getD k (0, 0)).2 0 1000 && (k != 0 || decide ((L.getD k (0, 0)).1 = 0)) && (k == 0 || decide ((L.getD (k - 1) (0, 0)).1 < (L.getD k (0, 0)).1))
def bracketsOk (L : List TBracket) : Bool := allTo (brkAt L) L.length && inB L.length 1 10
theorem bracketsOk_false {L : List TBracket} {k : Nat} (hk : k < L.length) (h : brkAt L k = false) : false = bracketsOk L := by simp [bracketsOk, allTo_false h hk]
theorem brkAt_zero {L : List TBracket} {f r : Int} (hx : L[0]? = some (f, r)) : brkAt L 0 = (inB f 0 1000000000 && inB r 0 1000 && decide (f = 0)) := by simp [brkAt, List.getD, hx]
theorem brkAt_succ {L : List TBracket} {j : Nat} {f r pf pr : Int} (hx : L[j]? = some (pf, pr)) (hy : L[j + 1]? = some (f, r)) : brkAt L (j + 1) = (inB f 0 1000000000 && inB r 0 1000 && decide (pf < f)) := by simp [brkAt, List.getD, hx, hy]
def taxed (L : List TBracket) (y : Int) : Bool := bracketsOk L && inB y 0 1000000000
theorem brk_range {L : List TBracket} (h : bracketsOk L = true) {k : Nat} {f r : Int} (hx : L[k]? = some (f, r)) : (0 ≤ f ∧ f ≤ 1000000000) ∧ (0 ≤ r ∧ r ≤ 1000) := by
  have hk := (List.getElem?_eq_some_iff.1 hx).1
  simp only [bracketsOk, Bool.and_eq_true] at h
  have := allTo_iff.1 h.1 k hk
  simp [brkAt, List.getD, hx, inB] at this
  omega
theorem brk_len {L : List TBracket} (h : bracketsOk L = true) : 1 ≤ L.length ∧ L.length ≤ 10 := by
  simp only [bracketsOk, Bool.and_eq_true, inB_iff] at h
  omega
theorem brk_lt {L : List TBracket} (h : bracketsOk L = true) {k : Nat} {f r nf nr : Int} (hx : L[k]? = some (f, r)) (hy : L[k + 1]? = some (nf, nr)) : f < nf := by
  have hk := (List.getElem?_eq_some_iff.1 hy).1
  simp only [bracketsOk, Bool.and_eq_true] at h
  have := allTo_iff.1 h.1 (k + 1) hk
  rw [brkAt_succ hx hy] at this
  simp at this
  omega
theorem brk_first {L : List TBracket} (h : bracketsOk L = true) : ∃ r, L[0]? = some (0, r) := by
  have hl := brk_len h
  obtain ⟨⟨f, r⟩, hx⟩ : ∃ x, L[0]? = some x := ⟨_, List.getElem?_eq_getElem (by omega)⟩
  simp only [bracketsOk, Bool.and_eq_true] at h
  have := allTo_iff.1 h.1 0 (by omega)
  rw [brkAt_zero hx] at this
  simp at this
  exact ⟨r, by rw [hx, this.2]⟩
/-- The rate of the last of the first k brackets that begins at y or below. -/
def rateTo (L : List TBracket) (y : Int) : Nat → Int
  | 0 => 0
  | k + 1 => if (L.getD k (0, 0)).1 ≤ y then (L.getD k (0, 0)).2 else rateTo L y k
theorem rateTo_yes {L : List TBracket} {y f r : Int} {k : Nat} (hx : L[k]? = some (f, r)) (h : f ≤ y) : rateTo L y (k + 1) = r := by simp [rateTo, List.getD, hx, h]
theorem rateTo_no {L : List TBracket} {y f r : Int} {k : Nat} (hx : L[k]? = some (f, r)) (h : y < f) : rateTo L y (k + 1) = rateTo L y k := by simp [rateTo, List.getD, hx, show ¬ f ≤ y by omega]
def marginal (L : List TBracket) (y : Int) : Int := if taxed L y = true then rateTo L y L.length else 0
def topAt (L : List TBracket) (y : Int) (k : Nat) : Int := if k + 1 < L.length then (if (L.getD (k + 1) (0, 0)).1 < y then (L.getD (k + 1) (0, 0)).1 else y) else y
def taxTo (L : List TBracket) (y : Int) : Nat → Int
  | 0 => 0
  | k + 1 => taxTo L y k + (if (L.getD k (0, 0)).1 < topAt L y k then topAt L y k - (L.getD k (0, 0)).1 else 0) * (L.getD k (0, 0)).2
theorem taxTo_succ {L : List TBracket} {y f r : Int} {k : Nat} (hx : L[k]? = some (f, r)) : taxTo L y (k + 1) = taxTo L y k + (if f < topAt L y k then topAt L y k - f else 0) * r := by simp [taxTo, List.getD, hx]
theorem topAt_last {L : List TBracket} {y : Int} {k : Nat} (h : ¬ k + 1 < L.length) : topAt L y k = y := by simp [topAt, h]
theorem topAt_next {L : List TBracket} {y nf nr : Int} {k : Nat} (hx : L[k + 1]? = some (nf, nr)) : topAt L y k = if nf < y then nf else y := by
  have hk := (List.getElem?_eq_some_iff.1 hx).1
  rw [topAt, if_pos hk, show L.getD (k + 1) (0, 0) = (nf, nr) by rw [List.getD, hx]; rfl]
theorem topAt_le (L : List TBracket) (y : Int) (k : Nat) : topAt L y k ≤ y := by
  unfold topAt; split
  · split <;> omega
  · omega
theorem taxTerm_range {f r top : Int} (h0 : 0 ≤ f) (h1 : 0 ≤ r) (h2 : r ≤ 1000) (h3 : top ≤ 1000000000) : 0 ≤ (if f < top then top - f else 0) * r ∧ (if f < top then top - f else 0) * r ≤ 1000000000000 := by
  split
  · have a := Int.mul_nonneg (show 0 ≤ top - f by omega) h1
    have b : (top - f) * r ≤ (top - f) * 1000 := Int.mul_le_mul_of_nonneg_left h2 (by omega)
    omega
  · simp
theorem taxTo_range {L : List TBracket} {y : Int} (h : bracketsOk L = true) (hy : y ≤ 1000000000) : ∀ k : Nat, k ≤ L.length → 0 ≤ taxTo L y k ∧ taxTo L y k ≤ 1000000000000 * (k : Int)
  | 0, _ => by simp [taxTo]
  | k + 1, hk => by
    obtain ⟨⟨f, r⟩, hx⟩ : ∃ x, L[k]? = some x := ⟨_, List.getElem?_eq_getElem (by omega)⟩
    have hr := brk_range h hx
    have ih := taxTo_range h hy k (by omega)
    have ht := taxTerm_range (f := f) (r := r) (top := topAt L y k) hr.1.1 hr.2.1 hr.2.2 (by have := topAt_le L y k; omega)
    rw [taxTo_succ hx]
    omega
def taxFor (L : List TBracket) (y : Int) : Int := if taxed L y = true then taxTo L y L.length / 1000 else 0
/-! A year's amount over twelve months -/
def spreadAt (total : Int) (j : Nat) : Int := ((j : Int) + 1) * total / 12 - (j : Int) * total / 12
def spreadTo (total : Int) (n : Nat) : List Int := (List.range n).map (spreadAt total)
theorem spreadTo_succ (total : Int) (n : Nat) : spreadTo total (n + 1) = spreadTo total n ++ [spreadAt total n] := by simp [spreadTo, List.range_succ]
theorem spreadTo_length (total : Int) (n : Nat) : (spreadTo total n).length = n := by simp [spreadTo]
theorem spread_mul {total : Int} {j : Nat} (h0 : 0 ≤ total) (h1 : total ≤ 1000000000) (hj : j ≤ 12) : 0 ≤ (j : Int) * total ∧ (j : Int) * total ≤ 12000000000 := by
  have a := Int.mul_nonneg (show (0 : Int) ≤ j by omega) h0
  have b : (j : Int) * total ≤ 12 * total := Int.mul_le_mul_of_nonneg_right (by omega) h0
  omega
theorem spreadTo_at {total : Int} {n j : Nat} (h : j < n) : (spreadTo total n)[j]? = some (spreadAt total j) := by simp [spreadTo, h]
theorem spread_sum (total : Int) (n : Nat) : ∀ k, k ≤ n → sumTo (spreadTo total n) k = (k : Int) * total / 12
  | 0, _ => by simp [sumTo]
  | k + 1, h => by
    rw [sumTo_succ (spreadTo_at (by omega)), spread_sum total n k (by omega), spreadAt]
    rw [show ((k + 1 : Nat) : Int) = (k : Int) + 1 by omega]
    omega
/-- How much of z lies below bracket k. -/
def baseAt (L : List TBracket) (z : Int) (k : Nat) : Int := if k < L.length then (if (L.getD k (0, 0)).1 < z then (L.getD k (0, 0)).1 else z) else z
theorem getD_some {α : Type} {L : List α} {k : Nat} {x d : α} (h : L[k]? = some x) : L.getD k d = x := by rw [List.getD, h]; rfl
theorem baseAt_some {L : List TBracket} {z f r : Int} {k : Nat} (hx : L[k]? = some (f, r)) : baseAt L z k = if f < z then f else z := by
  have hk := (List.getElem?_eq_some_iff.1 hx).1
  rw [baseAt, if_pos hk, getD_some hx]
theorem baseAt_end {L : List TBracket} {z : Int} {k : Nat} (hk : ¬ k < L.length) : baseAt L z k = z := by rw [baseAt, if_neg hk]
theorem baseAt_step {L : List TBracket} {z f r : Int} {k : Nat} (h : bracketsOk L = true) (hx : L[k]? = some (f, r)) :
    baseAt L z (k + 1) = baseAt L z k + (if f < topAt L z k then topAt L z k - f else 0) := by
  by_cases hk : k + 1 < L.length
  · obtain ⟨⟨nf, nr⟩, hy⟩ : ∃ x, L[k + 1]? = some x := ⟨_, List.getElem?_eq_getElem hk⟩
    have := brk_lt h hx hy
    rw [baseAt_some hx, baseAt_some hy, topAt_next hy]
    split <;> split <;> (try split) <;> omega
  · rw [baseAt_some hx, baseAt_end hk, topAt_last hk]
    split <;> omega
theorem taxTo_le {L : List TBracket} {y : Int} (h : bracketsOk L = true) (hy : 0 ≤ y) : ∀ k : Nat, k ≤ L.length → taxTo L y k ≤ 1000 * baseAt L y k
  | 0, _ => by
    obtain ⟨r, hx⟩ := brk_first h
    rw [taxTo, baseAt_some hx]
    split <;> omega
  | k + 1, hk => by
    obtain ⟨⟨f, r⟩, hx⟩ : ∃ x, L[k]? = some x := ⟨_, List.getElem?_eq_getElem (by omega)⟩
    have hr := brk_range h hx
    have ih := taxTo_le h hy k (by omega)
    rw [taxTo_succ hx, baseAt_step h hx]
    have hm : (if f < topAt L y k then topAt L y k - f else 0) * r ≤ (if f < topAt L y k then topAt L y k - f else 0) * 1000 := Int.mul_le_mul_of_nonneg_left hr.2.2 (by split <;> omega)
    omega
theorem taxFor_range {L : List TBracket} {y : Int} : 0 ≤ taxFor L y ∧ taxFor L y ≤ 1000000000 ∧ (taxed L y = true → taxFor L y ≤ y) := by
  unfold taxFor
  by_cases h : taxed L y = true
  · rw [if_pos h]
    have h' := h
    simp only [taxed, Bool.and_eq_true, inB_iff] at h'
    obtain ⟨hok, h0, h1⟩ := h'
    have a := taxTo_range hok h1 L.length (Nat.le_refl _)
    have b := taxTo_le hok h0 L.length (Nat.le_refl _)
    rw [baseAt_end (by omega)] at b
    exact ⟨by omega, by omega, fun _ => by omega⟩
  · rw [if_neg h]
    exact ⟨by omega, by omega, fun h' => absurd h' h⟩
theorem bracketsOk_push {L : List TBracket} {f r : Int} (h : allTo (brkAt L) L.length = true) (hf : inB f 0 1000000000 = true) (hr : inB r 0 1000 = true) (h0 : L = [] → f = 0) (hlt : ∀ x ∈ L, x.1 < f) :
    allTo (brkAt (L ++ [(f, r)])) (L ++ [(f, r)]).length = true := by
  have hm : (L ++ [(f, r)])[L.length]? = some (f, r) := by simp
  have hold : ∀ k, k < L.length → (L ++ [(f, r)])[k]? = L[k]? := fun k hk => by rw [List.getElem?_append_left hk]
  rw [List.length_append, List.length_singleton, allTo, Bool.and_eq_true]
  constructor
  · rw [allTo_congr (q := brkAt L) (fun k hk => by unfold brkAt List.getD; rw [hold k hk, hold (k - 1) (by omega)])]
    exact h
  · rcases hz : L.length with _ | j
    · rw [hz] at hm
      rw [brkAt_zero hm, hf, hr, h0 (List.length_eq_zero_iff.1 hz)]; rfl
    · have hj : (L ++ [(f, r)])[j]? = some L[j] := by rw [hold j (by omega)]; exact List.getElem?_eq_getElem (by omega)
      rw [hz] at hm
      rw [brkAt_succ (pf := L[j].1) (pr := L[j].2) hj hm, hf, hr]
      have := hlt L[j] (List.getElem_mem _)
      simpa using this
def monthly (L : List TBracket) (y : Int) : List Int := if taxed L y = true then spreadTo (taxFor L y) 12 else []
def netYear (L : List TBracket) (y : Int) : Int := if taxed L y = true then y - taxFor L y else 0
end Go.Proofs.YtjfmknhnplefnaaGreat
end

section
/-
  Cases: fractions, formulas, rules, facts, points, spells, events: plain definitions, no program.
-/
namespace Go.Proofs.YtjfmknhnplefnaaGreat

abbrev TFrac := Int × Int
abbrev TNode := Int × Int × Int × Int × Int × Int
abbrev TFact := Int × Int × Int × Int × Int
abbrev TPoint := Int × Int × Int
abbrev TSpell := Int × Int × Int × Bool
abbrev TEvent := Int × Int
/-- A rule without its nodes: name, from, to, joined, rank, mode. -/
structure TRule where
  name : Int
  from_ : Int
  to_ : Int
  joined : Int
  rank : Int
  mode : Int
  nodes : List TNode
instance : Inhabited TRule := ⟨⟨0, 0, 0, 0, 0, 0, []⟩⟩

theorem inB_false {n lo hi : Int} : inB n lo hi = false ↔ n < lo ∨ hi < n := by
  simp [inB]
  omega
theorem allTo_len_false {p : Nat → Bool} {n k : Nat} {b : Bool} (hk : k < n) (h : p k = false) : false = (allTo p n && b) := by simp [allTo_false h hk]

/-! Fractions -/
def fracOk (n d : Int) : Bool := inB d 1 1000000 && inB n (-1000000000000) 1000000000000 && decide (Int.gcd n d = 1)

/-! Formulas -/
def nodeOk (k a b c n d : Int) (i : Int) : Bool :=
  if k = 1 then a == 0 && b == 0 && c == 0 && fracOk n d
  else if n != 0 || d != 0 then false
  else if k = 2 then inB a 0 7 && b == 0 && c == 0
  else if inB k 3 8 then inB a 0 (i - 1) && inB b 0 (i - 1) && c == 0
  else k == 9 && inB a 0 (i - 1) && inB b 0 (i - 1) && inB c 0 (i - 1)
def nodeOkT (x : TNode) (i : Int) : Bool := nodeOk x.1 x.2.1 x.2.2.1 x.2.2.2.1 x.2.2.2.2.1 x.2.2.2.2.2 i
def nodeAt (L : List TNode) (k : Nat) : Bool := nodeOkT (L.getD k (0, 0, 0, 0, 0, 0)) k
theorem nodeAt_eq {L : List TNode} {k : Nat} {x : TNode} (h : L[k]? = some x) : nodeAt L k = nodeOkT x k := by simp [nodeAt, List.getD, h]
def formulaOk (L : List TNode) : Bool := allTo (nodeAt L) L.length && inB L.length 1 30
theorem formulaOk_false {L : List TNode} {k : Nat} (hk : k < L.length) (h : nodeAt L k = false) : false = formulaOk L := allTo_len_false hk h

/-! Rules and books -/
def ruleOk (r : TRule) : Bool :=
  inB r.name 1 20 && (decide (0 ≤ r.from_) && decide (r.from_ < r.to_) && decide (r.to_ ≤ 3600)) && inB r.joined 1 3600 && inB r.rank 0 9 && inB r.mode 1 4 && formulaOk r.nodes
/-- The elder rule o stands in the way of r. -/
def clash (o r : TRule) : Bool := o.name == r.name && o.rank == r.rank && decide (o.from_ < r.to_) && decide (r.from_ < o.to_)
def clear_ (R : List TRule) (i : Nat) (k : Nat) : Bool := !clash (R.getD k default) (R.getD i default)
def ruleAt (R : List TRule) (i : Nat) : Bool := ruleOk (R.getD i default) && allTo (clear_ R i) i
def bookOk (R : List TRule) : Bool := allTo (ruleAt R) R.length && decide (R.length ≤ 20)
theorem bookOk_false {R : List TRule} {k : Nat} (hk : k < R.length) (h : ruleAt R k = false) : false = bookOk R := allTo_len_false hk h
/-- A rule for this figure, month and member. -/
def applies (r : TRule) (name m joined : Int) : Bool := r.name == name && decide (r.from_ ≤ m) && decide (m < r.to_) && decide (joined < r.joined)
def bestTo (R : List TRule) (name m joined : Int) : Nat → Int
  | 0 => -1
  | k + 1 =>
    let b := bestTo R name m joined k
    if applies (R.getD k default) name m joined && (decide (b < 0) || decide ((R.getD b.toNat default).rank < (R.getD k default).rank)) then k else b
theorem bestTo_range (R : List TRule) (name m joined : Int) : ∀ k, -1 ≤ bestTo R name m joined k ∧ bestTo R name m joined k < k
  | 0 => by simp [bestTo]
  | k + 1 => by
    have := bestTo_range R name m joined k
    simp only [bestTo]
    split <;> omega
def ruleFor (R : List TRule) (name m joined : Int) : Int := if bookOk R then bestTo R name m joined R.length else -1

/-! Facts -/
def factOk (k f t n v : Int) : Bool := inB k 1 50 && (decide (0 ≤ f) && decide (f < t) && decide (t ≤ 3600)) && inB n 0 3599 && inB v (-1000000000) 1000000000
def factOkT (x : TFact) : Bool := factOk x.1 x.2.1 x.2.2.1 x.2.2.2.1 x.2.2.2.2
def factAt (F : List TFact) (k : Nat) : Bool := factOkT (F.getD k (0, 0, 0, 0, 0)) && (k == 0 || decide ((F.getD (k - 1) (0, 0, 0, 0, 0)).2.2.2.1 ≤ (F.getD k (0, 0, 0, 0, 0)).2.2.2.1))
theorem factAt_zero {F : List TFact} {x : TFact} (hx : F[0]? = some x) : factAt F 0 = factOkT x := by simp [factAt, List.getD, hx]
theorem factAt_succ {F : List TFact} {j : Nat} {x y : TFact} (hx : F[j]? = some x) (hy : F[j + 1]? = some y) : factAt F (j + 1) = (factOkT y && decide (x.2.2.2.1 ≤ y.2.2.2.1)) := by simp [factAt, List.getD, hx, hy]
def storeOk (F : List TFact) : Bool := allTo (factAt F) F.length && decide (F.length ≤ 200)
theorem storeOk_false {F : List TFact} {k : Nat} (hk : k < F.length) (h : factAt F k = false) : false = storeOk F := allTo_len_false hk h

/-! Series -/
def pointOk (m n v : Int) : Bool := inB m 0 3599 && inB n 0 3599 && decide (m ≤ n) && inB v 1 1000000
def pointAt (P : List TPoint) (k : Nat) : Bool :=
  pointOk (P.getD k (0, 0, 0)).1 (P.getD k (0, 0, 0)).2.1 (P.getD k (0, 0, 0)).2.2 && (k == 0 || decide ((P.getD (k - 1) (0, 0, 0)).2.1 ≤ (P.getD k (0, 0, 0)).2.1))
theorem pointAt_zero {P : List TPoint} {m n v : Int} (hx : P[0]? = some (m, n, v)) : pointAt P 0 = pointOk m n v := by simp [pointAt, List.getD, hx]
theorem pointAt_succ {P : List TPoint} {j : Nat} {m n v : Int} {x : TPoint} (hx : P[j]? = some x) (hy : P[j + 1]? = some (m, n, v)) : pointAt P (j + 1) = (pointOk m n v && decide (x.2.1 ≤ n)) := by simp [pointAt, List.getD, hx, hy]
def seriesOk (P : List TPoint) : Bool := allTo (pointAt P) P.length && decide (P.length ≤ 200)
theorem seriesOk_false {P : List TPoint} {k : Nat} (hk : k < P.length) (h : pointAt P k = false) : false = seriesOk P := allTo_len_false hk h

/-! Spells -/
def spellOk (f t p : Int) : Bool := (decide (0 ≤ f) && decide (f < t) && decide (t ≤ 3600)) && inB p 1 100
def spellAt (S : List TSpell) (k : Nat) : Bool :=
  spellOk (S.getD k (0, 0, 0, false)).1 (S.getD k (0, 0, 0, false)).2.1 (S.getD k (0, 0, 0, false)).2.2.1 && (k == 0 || decide ((S.getD (k - 1) (0, 0, 0, false)).2.1 ≤ (S.getD k (0, 0, 0, false)).1))
theorem spellAt_zero {S : List TSpell} {f t p : Int} {b : Bool} (hx : S[0]? = some (f, t, p, b)) : spellAt S 0 = spellOk f t p := by simp [spellAt, List.getD, hx]
theorem spellAt_succ {S : List TSpell} {j : Nat} {f t p : Int} {b : Bool} {x : TSpell} (hx : S[j]? = some x) (hy : S[j + 1]? = some (f, t, p, b)) : spellAt S (j + 1) = (spellOk f t p && decide (x.2.1 ≤ f)) := by simp [spellAt, List.getD, hx, hy]
def spellsOk (S : List TSpell) : Bool := allTo (spellAt S) S.length && decide (S.length ≤ 30)
theorem spellsOk_false {S : List TSpell} {k : Nat} (hk : k < S.length) (h : spellAt S k = false) : false = spellsOk S := allTo_len_false hk h

/-! Events -/
def statusAfter (s k : Int) : Int × Bool :=
  if k = 1 ∧ (s = 0 ∨ s = 2) then (1, true)
  else if k = 2 ∧ s = 1 then (2, true)
  else if k = 3 ∧ (s = 1 ∨ s = 2) then (3, true)
  else if k = 4 ∧ 1 ≤ s ∧ s ≤ 3 then (4, true)
  else (s, false)
/-- The status after k events. -/
def statTo (E : List TEvent) : Nat → Int
  | 0 => 0
  | k + 1 => (statusAfter (statTo E k) (E.getD k (0, 0)).1).1
theorem statusAfter_range {s k : Int} (h0 : 0 ≤ s) (h1 : s ≤ 4) : 0 ≤ (statusAfter s k).1 ∧ (statusAfter s k).1 ≤ 4 := by
  unfold statusAfter
  repeat' split
  all_goals simp
  all_goals omega
theorem statTo_range (E : List TEvent) : ∀ k, 0 ≤ statTo E k ∧ statTo E k ≤ 4
  | 0 => by simp [statTo]
  | k + 1 => statusAfter_range (statTo_range E k).1 (statTo_range E k).2
theorem statTo_succ {E : List TEvent} {j : Nat} {k m : Int} (hx : E[j]? = some (k, m)) : statTo E (j + 1) = (statusAfter (statTo E j) k).1 := by simp [statTo, List.getD, hx]
def eventAt (E : List TEvent) (k : Nat) : Bool :=
  (statusAfter (statTo E k) (E.getD k (0, 0)).1).2 && inB (E.getD k (0, 0)).2 0 3599 && (k == 0 || decide ((E.getD (k - 1) (0, 0)).2 < (E.getD k (0, 0)).2))
theorem eventAt_zero {E : List TEvent} {k m : Int} (hx : E[0]? = some (k, m)) : eventAt E 0 = ((statusAfter (statTo E 0) k).2 && inB m 0 3599) := by simp [eventAt, List.getD, hx]
theorem eventAt_succ {E : List TEvent} {j : Nat} {k m : Int} {x : TEvent} (hx : E[j]? = some x) (hy : E[j + 1]? = some (k, m)) : eventAt E (j + 1) = ((statusAfter (statTo E (j + 1)) k).2 && inB m 0 3599 && decide (x.2 < m)) := by simp [eventAt, List.getD, hx, hy]
def eventsOk (E : List TEvent) : Bool := allTo (eventAt E) E.length && decide (E.length ≤ 30)
theorem eventsOk_false {E : List TEvent} {k : Nat} (hk : k < E.length) (h : eventAt E k = false) : false = eventsOk E := allTo_len_false hk h

/-! Members and cases -/
def memberOk (birth joined : Int) (S : List TSpell) (E : List TEvent) : Bool := inB birth 0 3599 && inB joined 0 3599 && decide (birth ≤ joined) && spellsOk S && eventsOk E
def caseOk (R : List TRule) (F : List TFact) (P : List TPoint) (birth joined : Int) (S : List TSpell) (E : List TEvent) : Bool := bookOk R && storeOk F && seriesOk P && memberOk birth joined S E
end Go.Proofs.YtjfmknhnplefnaaGreat
end

section
/-
  What a case entitles to: values, series, events, spells, at a month: plain definitions, no program.
-/
namespace Go.Proofs.YtjfmknhnplefnaaGreat

def endOk (m : Int) : Bool := inB m 0 3600
def monthsIn (a b c d : Int) : Int := if endOk a && endOk b && endOk c && endOk d then max 0 (min b d - max a c) else 0

/-! Facts -/
def hit (x : TFact) (key m known : Int) : Bool := x.1 == key && decide (x.2.1 ≤ m) && decide (m < x.2.2.1) && decide (x.2.2.2.1 ≤ known)
/-- The last of k facts that hits. -/
def valTo (F : List TFact) (key m known : Int) : Nat → Int × Bool
  | 0 => (0, false)
  | k + 1 => if hit (F.getD k (0, 0, 0, 0, 0)) key m known then ((F.getD k (0, 0, 0, 0, 0)).2.2.2.2, true) else valTo F key m known k
def valueAt (F : List TFact) (key m known : Int) : Int × Bool := valTo F key m known F.length
theorem valTo_hit {F : List TFact} {k : Nat} {x : TFact} {key m known : Int} (hx : F[k]? = some x) (h : hit x key m known = true) : valTo F key m known (k + 1) = (x.2.2.2.2, true) := by simp [valTo, List.getD, hx, h]
theorem valTo_miss {F : List TFact} {k : Nat} {x : TFact} {key m known : Int} (hx : F[k]? = some x) (h : hit x key m known = false) : valTo F key m known (k + 1) = valTo F key m known k := by simp [valTo, List.getD, hx, h]
/-- The pay of the last of the months below k that has one. -/
def payTo (F : List TFact) (known : Int) : Nat → Int × Bool
  | 0 => (0, false)
  | k + 1 => if (valueAt F 1 k known).2 then valueAt F 1 k known else payTo F known k
def finalPay (F : List TFact) (m known : Int) : Int × Bool := if storeOk F && endOk m then payTo F known m.toNat else (0, false)

/-! Spells -/
def svOf (x : TSpell) (a b : Int) : Int := if x.2.2.2 then 0 else x.2.2.1 * monthsIn x.1 x.2.1 a b
def svTo (S : List TSpell) (a b : Int) : Nat → Int
  | 0 => 0
  | k + 1 => svTo S a b k + svOf (S.getD k (0, 0, 0, false)) a b
def serviceIn (S : List TSpell) (a b : Int) : Int := if spellsOk S then svTo S a b S.length else 0
theorem svTo_succ {S : List TSpell} {k : Nat} {x : TSpell} {a b : Int} (hx : S[k]? = some x) : svTo S a b (k + 1) = svTo S a b k + svOf x a b := by simp [svTo, List.getD, hx]
theorem monthsIn_comm (a b c d : Int) : monthsIn a b c d = monthsIn c d a b := by
  unfold monthsIn
  rw [Int.min_comm, Int.max_comm a c]
  cases endOk a <;> cases endOk b <;> cases endOk c <;> cases endOk d <;> rfl
theorem monthsIn_range (a b c d : Int) : 0 ≤ monthsIn a b c d ∧ monthsIn a b c d ≤ 3600 := by
  unfold monthsIn
  split
  · rename_i h
    simp only [Bool.and_eq_true, endOk, inB_iff] at h
    omega
  · omega

/-! Events -/
def kindTo (E : List TEvent) (kind : Int) : Nat → Int
  | 0 => -1
  | k + 1 => if (E.getD k (0, 0)).1 = kind then (E.getD k (0, 0)).2 else kindTo E kind k
def monthOfKind (E : List TEvent) (kind : Int) : Int := if eventsOk E then kindTo E kind E.length else -1
theorem kindTo_succ {E : List TEvent} {j : Nat} {k m : Int} (kind : Int) (hx : E[j]? = some (k, m)) : kindTo E kind (j + 1) = if k = kind then m else kindTo E kind j := by simp [kindTo, List.getD, hx]
def stTo (E : List TEvent) (m : Int) : Nat → Int
  | 0 => 0
  | k + 1 => if (E.getD k (0, 0)).2 ≤ m then (statusAfter (stTo E m k) (E.getD k (0, 0)).1).1 else stTo E m k
def statusAt (E : List TEvent) (m : Int) : Int := if eventsOk E then stTo E m E.length else 0
theorem stTo_succ {E : List TEvent} {j : Nat} {k n : Int} (m : Int) (hx : E[j]? = some (k, n)) : stTo E m (j + 1) = if n ≤ m then (statusAfter (stTo E m j) k).1 else stTo E m j := by simp [stTo, List.getD, hx]

/-! Series -/
def ixTo (P : List TPoint) (m known : Int) : Nat → Int
  | 0 => -1
  | k + 1 =>
    let b := ixTo P m known k
    if decide ((P.getD k (0, 0, 0)).1 ≤ m) && decide ((P.getD k (0, 0, 0)).2.1 ≤ known) && (decide (b < 0) || decide ((P.getD b.toNat (0, 0, 0)).1 ≤ (P.getD k (0, 0, 0)).1)) then k else b
def indexAt (P : List TPoint) (m known : Int) : Int × Bool := if ixTo P m known P.length < 0 then (0, false) else ((P.getD (ixTo P m known P.length).toNat (0, 0, 0)).2.2, true)
theorem ixTo_range (P : List TPoint) (m known : Int) : ∀ k, -1 ≤ ixTo P m known k ∧ ixTo P m known k < k
  | 0 => by simp [ixTo]
  | k + 1 => by
    have := ixTo_range P m known k
    simp only [ixTo]
    split <;> omega

/-! Fractions -/
/-- The valid fraction with a value. -/
def lowest (n d : Int) : Int × Int × Bool :=
  let n' := if d < 0 then -n else n
  let d' := if d < 0 then -d else d
  let a := n'.tdiv (Int.gcd n' d')
  let b := d'.tdiv (Int.gcd n' d')
  if fracOk a b then (a, b, true) else (0, 0, false)
def fracNew (n d : Int) : Int × Int × Bool := if d = 0 || !inB n (-1000000000000) 1000000000000 || !inB d (-1000000000000) 1000000000000 then (0, 0, false) else lowest n d
end Go.Proofs.YtjfmknhnplefnaaGreat
end

section
/-
  Fractions reckoned with: plain definitions and facts, no program.
-/
namespace Go.Proofs.YtjfmknhnplefnaaGreat

abbrev RFrac := Int × Int × Bool
def fracAdd (a b : TFrac) : RFrac := if fracOk a.1 a.2 && fracOk b.1 b.2 then lowest (a.1 * b.2 + b.1 * a.2) (a.2 * b.2) else (0, 0, false)
def fracSub (a b : TFrac) : RFrac := if fracOk a.1 a.2 && fracOk b.1 b.2 then lowest (a.1 * b.2 - b.1 * a.2) (a.2 * b.2) else (0, 0, false)
def factorB (a : TFrac) : Bool := fracOk a.1 a.2 && inB a.1 (-1000000) 1000000
def fracMul (a b : TFrac) : RFrac := if factorB a && factorB b then lowest (a.1 * b.1) (a.2 * b.2) else (0, 0, false)
def fracDiv (a b : TFrac) : RFrac := if factorB a && factorB b && b.1 != 0 then lowest (a.1 * b.2) (a.2 * b.1) else (0, 0, false)
def fracCmp (a b : TFrac) : Int := if fracOk a.1 a.2 && fracOk b.1 b.2 then (if a.1 * b.2 < b.1 * a.2 then -1 else if b.1 * a.2 < a.1 * b.2 then 1 else 0) else 2

/-- a plus s times b. -/
def fracSum (a b : TFrac) (s : Int) : RFrac := if fracOk a.1 a.2 && fracOk b.1 b.2 then lowest (a.1 * b.2 + s * b.1 * a.2) (a.2 * b.2) else (0, 0, false)
theorem fracAdd_sum (a b : TFrac) : fracAdd a b = fracSum a b 1 := by unfold fracAdd fracSum; rw [Int.one_mul]
theorem fracSub_sum (a b : TFrac) : fracSub a b = fracSum a b (-1) := by unfold fracSub fracSum; rw [show a.1 * b.2 - b.1 * a.2 = a.1 * b.2 + -1 * b.1 * a.2 by rw [Int.neg_mul, Int.one_mul, Int.neg_mul, ← Int.sub_eq_add_neg]]
theorem fracOk_iff {n d : Int} : fracOk n d = true ↔ (1 ≤ d ∧ d ≤ 1000000) ∧ (-1000000000000 ≤ n ∧ n ≤ 1000000000000) ∧ Int.gcd n d = 1 := by
  simp only [fracOk, Bool.and_eq_true, inB_iff, decide_eq_true_eq, and_assoc]
theorem fracOk_whole {n : Int} (h : -1000000000000 ≤ n ∧ n ≤ 1000000000000) : fracOk n 1 = true := by
  rw [fracOk_iff]
  exact ⟨by omega, h, Int.gcd_one_right n⟩
theorem natAbs_mul_le {x y : Int} {X Y : Nat} (h : x.natAbs ≤ X) (k : y.natAbs ≤ Y) : (x * y).natAbs ≤ X * Y := by
  rw [Int.natAbs_mul]
  exact Nat.mul_le_mul h k
theorem lowest_scale {n d g : Int} (hg : 0 < g) (hd : 0 < d) : lowest (g * n) (g * d) = lowest n d := by
  have h1 : ¬ g * d < 0 := by have := Int.mul_pos hg hd; omega
  have h2 : ¬ d < 0 := by omega
  have h3 : ((Int.gcd (g * n) (g * d) : Nat) : Int) = g * (Int.gcd n d : Nat) := by
    rw [Int.gcd_mul_left]
    push_cast
    rw [show ((g.natAbs : Nat) : Int) = g by omega]
  unfold lowest
  simp only [h1, h2, if_false]
  rw [h3, Int.mul_tdiv_mul_of_pos _ _ hg, Int.mul_tdiv_mul_of_pos _ _ hg]
theorem lowest_form (n d : Int) : ∃ a b, lowest n d = if fracOk a b = true then (a, b, true) else (0, 0, false) := ⟨_, _, rfl⟩
theorem lowest_ok {n d : Int} (h : (lowest n d).2.2 = true) : fracOk (lowest n d).1 (lowest n d).2.1 = true := by
  obtain ⟨a, b, e⟩ := lowest_form n d
  rw [e] at h ⊢
  split at h
  · rename_i hk
    rw [if_pos hk]
    exact hk
  · cases h
theorem lowest_no {n d : Int} (h : (lowest n d).2.2 = false) : lowest n d = (0, 0, false) := by
  obtain ⟨a, b, e⟩ := lowest_form n d
  rw [e] at h ⊢
  split at h
  · cases h
  · rename_i hk
    rw [if_neg hk]
theorem fracOk_zero : fracOk 0 0 = false := by simp [fracOk, inB]
theorem lowest_ok_eq (n d : Int) : fracOk (lowest n d).1 (lowest n d).2.1 = (lowest n d).2.2 := by
  cases h : (lowest n d).2.2
  · rw [lowest_no h]; exact fracOk_zero
  · exact lowest_ok h
/-- Alike in value, alike in terms. -/
theorem frac_eq {a b : TFrac} (ha : fracOk a.1 a.2 = true) (hb : fracOk b.1 b.2 = true) (h : a.1 * b.2 = b.1 * a.2) : a = b := by
  obtain ⟨n, d⟩ := a
  obtain ⟨m, e⟩ := b
  dsimp only at ha hb h
  rw [fracOk_iff] at ha hb
  obtain ⟨⟨d0, _⟩, _, gd⟩ := ha
  obtain ⟨⟨e0, _⟩, _, ge⟩ := hb
  have h1 : d.natAbs ∣ e.natAbs := by
    have hh : d.natAbs ∣ n.natAbs * e.natAbs := by
      rw [← Int.natAbs_mul, h, Int.natAbs_mul]
      exact Nat.dvd_mul_left _ _
    exact (Nat.Coprime.dvd_of_dvd_mul_left (show Nat.Coprime d.natAbs n.natAbs by rw [Nat.coprime_comm]; exact gd) hh)
  have h2 : e.natAbs ∣ d.natAbs := by
    have hh : e.natAbs ∣ m.natAbs * d.natAbs := by
      rw [← Int.natAbs_mul, ← h, Int.natAbs_mul]
      exact Nat.dvd_mul_left _ _
    exact (Nat.Coprime.dvd_of_dvd_mul_left (show Nat.Coprime e.natAbs m.natAbs by rw [Nat.coprime_comm]; exact ge) hh)
  have h3 : d = e := by have := Nat.dvd_antisymm h1 h2; omega
  subst h3
  have h4 : n = m := Int.eq_of_mul_eq_mul_right (by omega) h
  rw [h4]
theorem fracCmp_flip {a b : TFrac} (ha : fracOk a.1 a.2 = true) (hb : fracOk b.1 b.2 = true) : fracCmp b a = -fracCmp a b := by
  unfold fracCmp
  rw [ha, hb]
  simp only [Bool.and_self, if_true]
  (repeat' split) <;> omega
theorem fracCmp_zero {a b : TFrac} (ha : fracOk a.1 a.2 = true) (hb : fracOk b.1 b.2 = true) (h : fracCmp a b = 0) : a = b := by
  refine frac_eq ha hb ?_
  unfold fracCmp at h
  rw [ha, hb] at h
  simp only [Bool.and_self, if_true] at h
  split at h
  · omega
  · split at h
    · omega
    · omega
/-- The spec's sum, the common divisor of the denominators taken out. -/
theorem lowest_sum {a b : TFrac} (ha : fracOk a.1 a.2 = true) (hb : fracOk b.1 b.2 = true) (s : Int) :
    lowest (a.1 * (b.2 / (Int.gcd a.2 b.2 : Nat)) + s * b.1 * (a.2 / (Int.gcd a.2 b.2 : Nat))) (a.2 / (Int.gcd a.2 b.2 : Nat) * b.2) = lowest (a.1 * b.2 + s * b.1 * a.2) (a.2 * b.2) := by
  obtain ⟨n, d⟩ := a
  obtain ⟨m, e⟩ := b
  dsimp only at ha hb ⊢
  rw [fracOk_iff] at ha hb
  obtain ⟨g, hg⟩ : ∃ g : Int, g = ((Int.gcd d e : Nat) : Int) := ⟨_, rfl⟩
  rw [← hg]
  have hg0 : 0 < g := by
    have : 0 < Int.gcd d e := Int.gcd_pos_of_ne_zero_left _ (by omega)
    omega
  have hd : g * (d / g) = d := Int.mul_ediv_cancel' (by rw [hg]; exact Int.gcd_dvd_left ..)
  have he : g * (e / g) = e := Int.mul_ediv_cancel' (by rw [hg]; exact Int.gcd_dvd_right ..)
  have hdg : 0 < d / g := by
    have : 0 < d / g * g := by rw [Int.mul_comm]; omega
    exact Int.pos_of_mul_pos_left this hg0
  rw [← lowest_scale (n := n * (e / g) + s * m * (d / g)) (d := d / g * e) hg0 (Int.mul_pos hdg (by omega))]
  congr 1
  · rw [Int.mul_add, show g * (n * (e / g)) = n * (g * (e / g)) by rw [Int.mul_left_comm], he, show g * (s * m * (d / g)) = s * m * (g * (d / g)) by rw [Int.mul_left_comm], hd]
  · rw [← Int.mul_assoc, hd]
end Go.Proofs.YtjfmknhnplefnaaGreat
end

section
/-
  Formulas, figures, entitlements and corrections: plain definitions and facts, no program.
-/
namespace Go.Proofs.YtjfmknhnplefnaaGreat

/-! Formulas -/
def fr (V : List TFrac) (i : Int) : TFrac := V.getD i.toNat (0, 0)
def yesF (a : TFrac) : RFrac := (a.1, a.2, true)
def nodeVal (x : TNode) (V vars : List TFrac) : RFrac :=
  if x.1 = 1 then (x.2.2.2.2.1, x.2.2.2.2.2, true)
  else if x.1 = 2 then yesF (fr vars x.2.1)
  else if x.1 = 3 then fracAdd (fr V x.2.1) (fr V x.2.2.1)
  else if x.1 = 4 then fracSub (fr V x.2.1) (fr V x.2.2.1)
  else if x.1 = 5 then fracMul (fr V x.2.1) (fr V x.2.2.1)
  else if x.1 = 6 then fracDiv (fr V x.2.1) (fr V x.2.2.1)
  else if x.1 = 7 then (if fracCmp (fr V x.2.2.1) (fr V x.2.1) < 0 then yesF (fr V x.2.2.1) else yesF (fr V x.2.1))
  else if x.1 = 8 then (if 0 < fracCmp (fr V x.2.2.1) (fr V x.2.1) then yesF (fr V x.2.2.1) else yesF (fr V x.2.1))
  else if 0 < (fr V x.2.1).1 then yesF (fr V x.2.2.1) else yesF (fr V x.2.2.2.1)
def fracsOk (V : List TFrac) : Bool := V.all fun v => fracOk v.1 v.2
def evalTo (L : List TNode) (vars : List TFrac) : Nat → List TFrac × Bool
  | 0 => ([], true)
  | k + 1 =>
    let r := nodeVal (L.getD k (0, 0, 0, 0, 0, 0)) (evalTo L vars k).1 vars
    if (evalTo L vars k).2 && r.2.2 then ((evalTo L vars k).1 ++ [(r.1, r.2.1)], true) else ([], false)
def varsOk (vars : List TFrac) : Bool := fracsOk vars && decide (vars.length = 8)
def evalAll (L : List TNode) (vars : List TFrac) : List TFrac × Bool := if formulaOk L && varsOk vars then evalTo L vars L.length else ([], false)
def evalOf (L : List TNode) (vars : List TFrac) : RFrac := if (evalAll L vars).2 then yesF (fr (evalAll L vars).1 ((L.length : Int) - 1)) else (0, 0, false)

theorem fracAdd_ok {a b : TFrac} (h : (fracAdd a b).2.2 = true) : fracOk (fracAdd a b).1 (fracAdd a b).2.1 = true := by
  unfold fracAdd at h ⊢; split at h
  · rename_i hk; rw [if_pos hk]; exact lowest_ok h
  · cases h
theorem fracSub_ok {a b : TFrac} (h : (fracSub a b).2.2 = true) : fracOk (fracSub a b).1 (fracSub a b).2.1 = true := by
  unfold fracSub at h ⊢; split at h
  · rename_i hk; rw [if_pos hk]; exact lowest_ok h
  · cases h
theorem fracMul_ok {a b : TFrac} (h : (fracMul a b).2.2 = true) : fracOk (fracMul a b).1 (fracMul a b).2.1 = true := by
  unfold fracMul at h ⊢; split at h
  · rename_i hk; rw [if_pos hk]; exact lowest_ok h
  · cases h
theorem fracDiv_ok {a b : TFrac} (h : (fracDiv a b).2.2 = true) : fracOk (fracDiv a b).1 (fracDiv a b).2.1 = true := by
  unfold fracDiv at h ⊢; split at h
  · rename_i hk; rw [if_pos hk]; exact lowest_ok h
  · cases h
theorem fracsOk_at {V : List TFrac} (h : fracsOk V = true) {k : Nat} {x : TFrac} (hx : V[k]? = some x) : fracOk x.1 x.2 = true := by
  unfold fracsOk at h
  exact List.all_eq_true.1 h x (List.mem_of_getElem? hx)
theorem fr_some {V : List TFrac} {k : Nat} {x : TFrac} (hx : V[k]? = some x) : fr V (k : Int) = x := by simp [fr, List.getD, hx]
theorem fr_ok {V : List TFrac} (h : fracsOk V = true) {i : Int} (h0 : 0 ≤ i) (h1 : i < V.length) : fracOk (fr V i).1 (fr V i).2 = true := by
  obtain ⟨k, rfl⟩ : ∃ k : Nat, i = k := ⟨i.toNat, by omega⟩
  have hx : V[k]? = some V[k] := List.getElem?_eq_getElem (by omega)
  rw [fr_some hx]
  exact fracsOk_at h hx
/-- What a valid node wants of its place. -/
theorem node_range {x : TNode} {i : Int} (h : nodeOkT x i = true) :
    (x.1 = 1 ∧ fracOk x.2.2.2.2.1 x.2.2.2.2.2 = true) ∨ (x.1 = 2 ∧ 0 ≤ x.2.1 ∧ x.2.1 ≤ 7) ∨
    (3 ≤ x.1 ∧ x.1 ≤ 9 ∧ (0 ≤ x.2.1 ∧ x.2.1 < i) ∧ (0 ≤ x.2.2.1 ∧ x.2.2.1 < i) ∧ (x.1 = 9 → 0 ≤ x.2.2.2.1 ∧ x.2.2.2.1 < i)) := by
  obtain ⟨k, a, b, c, n, d⟩ := x
  simp only [nodeOkT, nodeOk] at h
  dsimp only
  split at h
  · rename_i hk
    simp only [Bool.and_eq_true] at h
    exact .inl ⟨hk, h.2⟩
  · split at h
    · cases h
    · split at h
      · rename_i hk
        simp only [Bool.and_eq_true, inB_iff] at h
        exact .inr (.inl ⟨hk, by omega⟩)
      · split at h
        · rename_i hk
          simp only [Bool.and_eq_true, inB_iff] at h hk
          exact .inr (.inr ⟨by omega, by omega, by omega, by omega, by omega⟩)
        · simp only [Bool.and_eq_true, inB_iff, beq_iff_eq] at h
          exact .inr (.inr ⟨by omega, by omega, by omega, by omega, by omega⟩)
theorem nodeVal_ok {x : TNode} {V vars : List TFrac} (hn : nodeOkT x V.length = true) (hV : fracsOk V = true) (hv : varsOk vars = true) (h : (nodeVal x V vars).2.2 = true) :
    fracOk (nodeVal x V vars).1 (nodeVal x V vars).2.1 = true := by
  have hr := node_range hn
  simp only [varsOk, Bool.and_eq_true, decide_eq_true_eq] at hv
  unfold nodeVal at h ⊢
  rcases hr with ⟨h1, h2⟩ | ⟨h1, h2, h3⟩ | ⟨h1, h2, h3, h4, h5⟩
  · rw [if_pos h1]; exact h2
  · rw [if_neg (by omega), if_pos h1]
    exact fr_ok hv.1 h2 (by omega)
  · rw [if_neg (by omega), if_neg (by omega)] at h ⊢
    by_cases e3 : x.1 = 3
    · rw [if_pos e3] at h ⊢; exact fracAdd_ok h
    by_cases e4 : x.1 = 4
    · rw [if_neg e3, if_pos e4] at h ⊢; exact fracSub_ok h
    by_cases e5 : x.1 = 5
    · rw [if_neg e3, if_neg e4, if_pos e5] at h ⊢; exact fracMul_ok h
    by_cases e6 : x.1 = 6
    · rw [if_neg e3, if_neg e4, if_neg e5, if_pos e6] at h ⊢; exact fracDiv_ok h
    rw [if_neg e3, if_neg e4, if_neg e5, if_neg e6]
    have fa := fr_ok hV h3.1 h3.2
    have fb := fr_ok hV h4.1 h4.2
    by_cases e7 : x.1 = 7
    · rw [if_pos e7]; split
      · exact fb
      · exact fa
    by_cases e8 : x.1 = 8
    · rw [if_neg e7, if_pos e8]; split
      · exact fb
      · exact fa
    have h9 := h5 (by omega)
    rw [if_neg e7, if_neg e8]
    split
    · exact fb
    · exact fr_ok hV h9.1 h9.2
theorem evalTo_succ_yes {L : List TNode} {vars V : List TFrac} {k : Nat} {x : TNode} {n d : Int} (hx : L[k]? = some x) (h : evalTo L vars k = (V, true)) (hv : nodeVal x V vars = (n, d, true)) : evalTo L vars (k + 1) = (V ++ [(n, d)], true) := by
  have e : L.getD k (0, 0, 0, 0, 0, 0) = x := by simp [List.getD, hx]
  simp only [evalTo, e, h, hv]
  rfl
theorem evalTo_succ_no {L : List TNode} {vars V : List TFrac} {k : Nat} {x : TNode} (hx : L[k]? = some x) (h : evalTo L vars k = (V, true)) (hv : (nodeVal x V vars).2.2 = false) : evalTo L vars (k + 1) = ([], false) := by
  have e : L.getD k (0, 0, 0, 0, 0, 0) = x := by simp [List.getD, hx]
  simp only [evalTo, e, h, hv]
  rfl
theorem evalTo_stuck {L : List TNode} {vars : List TFrac} {k : Nat} (h : evalTo L vars k = ([], false)) : ∀ d, evalTo L vars (k + d) = ([], false)
  | 0 => h
  | d + 1 => by
    have ih := evalTo_stuck h d
    show (if (evalTo L vars (k + d)).2 && _ then _ else _) = _
    rw [ih]; rfl
/-- As far as it goes: as many values as nodes, all valid. -/
theorem evalTo_inv {L : List TNode} {vars : List TFrac} (hL : formulaOk L = true) (hv : varsOk vars = true) : ∀ k, k ≤ L.length → (evalTo L vars k).2 = true → (evalTo L vars k).1.length = k ∧ fracsOk (evalTo L vars k).1 = true
  | 0, _, _ => ⟨rfl, rfl⟩
  | k + 1, hk, h => by
    obtain ⟨x, hx⟩ : ∃ x, L[k]? = some x := ⟨_, List.getElem?_eq_getElem (by omega)⟩
    have e : L.getD k (0, 0, 0, 0, 0, 0) = x := by simp [List.getD, hx]
    have hn : nodeOkT x k = true := by
      simp only [formulaOk, Bool.and_eq_true] at hL
      have := allTo_iff.1 hL.1 k (by omega)
      rwa [nodeAt_eq hx] at this
    simp only [evalTo, e] at h ⊢
    split at h
    · rename_i hc
      rw [if_pos hc]
      rw [Bool.and_eq_true] at hc
      have ih := evalTo_inv hL hv k (by omega) hc.1
      have hn' : nodeOkT x (evalTo L vars k).1.length = true := by rw [ih.1]; exact hn
      have := nodeVal_ok hn' ih.2 hv hc.2
      refine ⟨by rw [List.length_append, ih.1]; rfl, ?_⟩
      simp only [fracsOk, List.all_append, Bool.and_eq_true] at ih ⊢
      exact ⟨ih.2, by simpa using this⟩
    · cases h
theorem evalOf_ok {L : List TNode} {vars : List TFrac} (h : (evalOf L vars).2.2 = true) : fracOk (evalOf L vars).1 (evalOf L vars).2.1 = true := by
  unfold evalOf at h ⊢
  split at h
  · rename_i hk
    rw [if_pos hk]
    unfold evalAll at hk ⊢
    split at hk
    · rename_i hc
      rw [if_pos hc]
      rw [Bool.and_eq_true] at hc
      have := evalTo_inv hc.1 hc.2 L.length (Nat.le_refl _) hk
      have hl : 1 ≤ L.length := by
        have := hc.1
        simp only [formulaOk, Bool.and_eq_true, inB_iff] at this
        omega
      exact fr_ok this.2 (by omega) (by omega)
    · cases hk
  · cases h

/-! Rounding -/
def upB (low rest d mode : Int) : Bool :=
  if mode = 2 then decide (0 < rest) else if mode = 3 then decide (d ≤ 2 * rest) else if mode = 4 then decide (d < 2 * rest) || (decide (2 * rest = d) && decide (low % 2 ≠ 0)) else false
def roundFrac (n d mode : Int) : Int × Bool :=
  if fracOk n d && inB mode 1 4 then (if upB (n / d) (n - n / d * d) d mode then n / d + 1 else n / d, true) else (0, false)

/-! Figures -/
def figure (R : List TRule) (m joined : Int) (vars : List TFrac) : Int × Int × Bool :=
  if ruleFor R 1 m joined < 0 then (0, 0, false)
  else
    let r := R.getD (ruleFor R 1 m joined).toNat default
    let v := evalOf r.nodes vars
    if v.2.2 then ((roundFrac v.1 v.2.1 r.mode).1, ruleFor R 1 m joined, true) else (0, 0, false)
/-! Ages -/
def ageDone (birth m : Int) : Int := if inB birth 0 3599 && inB m 0 3599 && decide (birth ≤ m) then (m - birth) / 12 else -1
/-! Ratios -/
def indexRatio (P : List TPoint) (a b known : Int) : RFrac := if (indexAt P a known).2 && (indexAt P b known).2 then fracNew (indexAt P b known).1 (indexAt P a known).1 else (0, 0, false)
def ratioOf (P : List TPoint) (a b known : Int) : TFrac := if (indexRatio P a b known).2.2 then ((indexRatio P a b known).1, (indexRatio P a b known).2.1) else (1, 1)
def sinceOf (E : List TEvent) (m : Int) : Int := if decide (0 ≤ monthOfKind E 3) && decide (monthOfKind E 3 ≤ m) then m - monthOfKind E 3 else 0
end Go.Proofs.YtjfmknhnplefnaaGreat
end

section
/-
  The first element of a list at which a test holds: plain lists.
-/
namespace Go.Proofs.YtjfmknhnplefnaaGreat
/-- r is the first place at which p holds, or -1. -/
def Found {α : Type} (p : α → Bool) (L : List α) (r : Int) : Prop :=
  (r = -1 ∧ L.all (fun x => !p x) = true) ∨ ∃ (k : Nat) (x : α), r = k ∧ L[k]? = some x ∧ p x = true ∧ (L.take k).all (fun x => !p x) = true
theorem all_take_succ {α : Type} {q : α → Bool} {L : List α} {k : Nat} {x : α} (h : (L.take k).all q = true) (hx : L[k]? = some x) (hq : q x = true) : (L.take (k + 1)).all q = true := by
  rw [List.take_add_one, List.all_append, h, hx]
  simp [hq]
theorem Found.any {α : Type} {p : α → Bool} {L : List α} {r : Int} (h : Found p L r) : decide (0 ≤ r) = L.any p := by
  rcases h with ⟨rfl, h⟩ | ⟨k, x, rfl, hx, hp, _⟩
  · have : L.any p = false := by
      rw [List.any_eq_false]
      intro x hx
      simpa using List.all_eq_true.1 h x hx
    rw [this]; rfl
  · have : L.any p = true := List.any_eq_true.2 ⟨x, List.mem_of_getElem? hx, hp⟩
    rw [this]
    simp
theorem all_false {α : Type} {q : α → Bool} {L : List α} {k : Nat} {x : α} (hx : L[k]? = some x) (hq : q x = false) : L.all q = false := by
  rw [List.all_eq_false]
  exact ⟨x, List.mem_of_getElem? hx, by simp [hq]⟩
end Go.Proofs.YtjfmknhnplefnaaGreat
end

