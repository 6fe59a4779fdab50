/-
  Returned payments; confirmed runs; who is paid: plain.
-/
import Derived.Test.YtccgbilgfnoheaaAfter
import Derived.Test.YtccgbilgfnoheaaPlainPay
namespace Go.Proofs.Ytccgbilgfnoheaa
open Go.RowKit
set_option linter.unusedVariables false

theorem hasK_mem {K : List Int} {v : Int} : hasK K v = true ↔ v ∈ K := by simp [hasK]
/-- The entries at the places that are picked. -/
def selL (K : List Int) (s : Nat → Bool) : Nat → List Int
  | 0 => []
  | i + 1 => if s i = true then selL K s i ++ [K.getD i 0] else selL K s i
theorem selL_yes {K : List Int} {s : Nat → Bool} {i : Nat} {x : Int} (hx : K[i]? = some x) (h : s i = true) : selL K s (i + 1) = selL K s i ++ [x] := by rw [selL, if_pos h, List.getD, hx]; rfl
theorem selL_no {K : List Int} {s : Nat → Bool} {i : Nat} (h : s i = false) : selL K s (i + 1) = selL K s i := by rw [selL, if_neg (by simp [h])]
theorem selL_len (K : List Int) (s : Nat → Bool) : ∀ n, (selL K s n).length ≤ n
  | 0 => Nat.le_refl _
  | n + 1 => by
    have := selL_len K s n
    rw [selL]; split
    · simp; omega
    · omega
theorem selL_mem {K : List Int} {s : Nat → Bool} {v : Int} : ∀ {n : Nat}, n ≤ K.length → (v ∈ selL K s n ↔ ∃ j, j < n ∧ s j = true ∧ K[j]? = some v)
  | 0, _ => by simp [selL]
  | n + 1, hn => by
    have ih := selL_mem (K := K) (s := s) (v := v) (n := n) (by omega)
    have hx : K[n]? = some K[n] := List.getElem?_eq_getElem (by omega)
    cases h : s n
    · rw [selL_no h, ih]
      constructor
      · rintro ⟨j, a, b, c⟩; exact ⟨j, by omega, b, c⟩
      · rintro ⟨j, a, b, c⟩
        have : j ≠ n := fun e => by subst e; rw [h] at b; cases b
        exact ⟨j, by omega, b, c⟩
    · rw [selL_yes hx h, List.mem_append, ih]
      constructor
      · rintro (⟨j, a, b, c⟩ | hv)
        · exact ⟨j, by omega, b, c⟩
        · simp at hv; subst hv; exact ⟨n, by omega, h, hx⟩
      · rintro ⟨j, a, b, c⟩
        by_cases e : j = n
        · subst e; rw [hx] at c; exact .inr (by simpa using (Option.some.inj c).symm)
        · exact .inl ⟨j, by omega, b, c⟩
theorem keys_inj {K C : List Int} (h : bankOk K C = true) {i j : Nat} {v : Int} (hi : K[i]? = some v) (hj : K[j]? = some v) : i = j := by
  obtain ⟨a, b, c⟩ := bankOk_iff.1 h
  have key : ∀ {i j : Nat}, K[i]? = some v → K[j]? = some v → i < j → False := by
    intro i j hi hj hlt
    have hjl := (List.getElem?_eq_some_iff.1 hj).1
    have h1 := (c j v (C[j]'(by omega)) hj (List.getElem?_eq_getElem _)).2.2
    have h2 : hasK (K.take j) v = true := hasK_mem.2 (List.mem_of_getElem? (i := i) (by rw [List.getElem?_take_of_lt hlt]; exact hi))
    rw [h1] at h2; cases h2
  rcases Nat.lt_trichotomy i j with h | h | h
  · exact (key hi hj h).elim
  · exact h
  · exact (key hj hi h).elim
theorem sel_has {K C : List Int} (h : bankOk K C = true) (s : Nat → Bool) {i : Nat} {x : Int} (hx : K[i]? = some x) : hasK (selL K s K.length) x = s i := by
  have hi := (List.getElem?_eq_some_iff.1 hx).1
  cases hs : s i
  · rw [← Bool.not_eq_true, hasK_mem, selL_mem (Nat.le_refl _)]
    rintro ⟨j, a, b, c⟩
    have := keys_inj h hx c
    subst this
    rw [hs] at b; cases b
  · rw [hasK_mem, selL_mem (Nat.le_refl _)]
    exact ⟨i, hi, hs, hx⟩
theorem aft_len {K C : List Int} (h : bankOk K C = true) (s : Nat → Bool) : ∀ n, n ≤ K.length → (aftK K (selL K s K.length) n).length + (selL K s n).length = n
  | 0, _ => by simp [aftK, selL]
  | n + 1, hn => by
    have ih := aft_len h s n (by omega)
    have hx : K[n]? = some K[n] := List.getElem?_eq_getElem (by omega)
    have hh := sel_has h s hx
    cases hs : s n
    · rw [hs] at hh
      rw [aftK_no hx hh, selL_no hs]; simp; omega
    · rw [hs] at hh
      rw [aftK_yes hx hh, selL_yes hx hs]; simp; omega
theorem aft_sum {K C : List Int} (R : List Int) (hl : K.length = C.length) : ∀ n, n ≤ K.length → aftS K C R n + (aftC K C R n).sum = (C.take n).sum
  | 0, _ => by simp [aftS, aftC]
  | n + 1, hn => by
    have ih := aft_sum R hl n (by omega)
    have hx : K[n]? = some K[n] := List.getElem?_eq_getElem (by omega)
    have hy : C[n]? = some (C[n]'(by omega)) := List.getElem?_eq_getElem (by omega)
    rw [List.take_add_one, hy, Option.toList_some, sum_push, ← ih]
    cases hk : hasK R K[n]
    · rw [aftS_no hx hk, aftC_no hx hy hk, sum_push]; omega
    · rw [aftS_yes hx hy hk, aftC_yes hx hk]; omega
theorem aft_ok {K C : List Int} (R : List Int) (h : bankOk K C = true) : ∀ n, n ≤ K.length → bankOk (aftK K R n) (aftC K C R n) = true ∧ ∀ v, v ∈ aftK K R n → v ∈ K.take n
  | 0, _ => ⟨rfl, by simp [aftK]⟩
  | n + 1, hn => by
    obtain ⟨ih, im⟩ := aft_ok R h n (by omega)
    obtain ⟨a, b, c⟩ := bankOk_iff.1 h
    have hx : K[n]? = some K[n] := List.getElem?_eq_getElem (by omega)
    have hy : C[n]? = some (C[n]'(by omega)) := List.getElem?_eq_getElem (by omega)
    have hc := c n _ _ hx hy
    have ht : ∀ v, v ∈ K.take n → v ∈ K.take (n + 1) := fun v hv => by rw [List.take_add_one]; exact List.mem_append_left _ hv
    cases hk : hasK R K[n]
    · rw [aftK_no hx hk, aftC_no hx hy hk]
      have hno : hasK (aftK K R n) K[n] = false := by
        rw [← Bool.not_eq_true, hasK_mem]
        intro hm
        have := hasK_mem.2 (im _ hm)
        rw [hc.2.2] at this; cases this
      refine ⟨?_, fun v hv => ?_⟩
      · rw [bankOk_push ih hno hc.1 hc.2.1]
        have := aftK_len K R n
        simp; omega
      · rcases List.mem_append.1 hv with hv | hv
        · exact ht v (im v hv)
        · simp at hv; subst hv
          exact List.mem_take_iff_getElem.2 ⟨n, by omega, rfl⟩
    · rw [aftK_yes hx hk, aftC_yes hx hk]
      exact ⟨ih, fun v hv => ht v (im v hv)⟩

/-! Confirmed runs -/
theorem confirm_twice {m : Int} {L : List TItem} {K C : List Int} (h1 : runOk m L = true) (h2 : bankOk K C = true) : confirm m (confirm m L K C) K C = confirm m L K C := by
  have h3 := confirm_ok (K := K) (C := C) h1
  have e : confirm m L K C = L.map (conf m K) := by unfold confirm; rw [if_pos (by rw [h1, h2]; rfl)]
  rw [e] at h3 ⊢
  unfold confirm
  rw [if_pos (by rw [h3, h2]; rfl), List.map_map]
  exact List.map_congr_left fun x _ => rfl
theorem confirm_at {m : Int} {L : List TItem} {K C : List Int} (h1 : runOk m L = true) (h2 : bankOk K C = true) {i : Nat} {x : TItem} (hx : L[i]? = some x) : (confirm m L K C)[i]? = some (x.1, x.2.1, if hasK K (keyOfI m x) = true then 2 else 0) := by
  unfold confirm
  rw [if_pos (by rw [h1, h2]; rfl), List.getElem?_map, hx]
  rfl

/-! Who is paid -/
theorem crash_ok {m : Int} {L : List TItem} {lost : Int} (h : runOk m L = true) : runOk m (crash m L lost) = true := by
  refine runOk_states h ?_ ?_
  · unfold crash mix
    split
    · rw [List.map_append, ← List.map_drop, List.map_map, show bare ∘ opn = bare from rfl, ← List.map_append, List.take_append_drop]
    · rfl
  · unfold crash mix
    split
    · intro x hx
      rcases List.mem_append.1 hx with hx | hx
      · exact states_ok h x (List.mem_of_mem_take hx)
      · obtain ⟨y, _, rfl⟩ := List.mem_map.1 (List.mem_of_mem_drop hx)
        unfold opn; dsimp only; omega
    · exact states_ok h
/-- Each item is open, or its key lies in the bank. -/
def paidOr (m : Int) (L : List TItem) (K : List Int) : Prop := ∀ x ∈ L, isOpn x = true ∨ hasK K (keyOfI m x) = true
theorem paidOr_confirm {m : Int} {L : List TItem} {K C : List Int} (h1 : runOk m L = true) (h2 : bankOk K C = true) : paidOr m (confirm m L K C) K := by
  intro x hx
  obtain ⟨i, hi⟩ := List.mem_iff_getElem?.1 hx
  have hl := (List.getElem?_eq_some_iff.1 hi).1
  rw [confirm_len] at hl
  have hy : L[i]? = some L[i] := List.getElem?_eq_getElem hl
  rw [confirm_at h1 h2 hy] at hi
  obtain rfl := Option.some.inj hi
  cases hk : hasK K (keyOfI m L[i])
  · exact .inl (by simp [isOpn])
  · exact .inr hk
theorem paidOr_send {m : Int} {L : List TItem} {K C : List Int} (h : paidOr m L K) (ho : sendOk m L K C = true) : paidOr m (sendL m L K C) (sendK m L K C) := by
  unfold sendOk at ho
  cases hp : plan m L K C with
  | none => rw [hp] at ho; cases ho
  | some z =>
    obtain ⟨i, x, b⟩ := z
    obtain ⟨p1, p2, p3, p4, p5, p6⟩ := plan_some hp
    have hmono : ∀ v, hasK K v = true → hasK (sendK m L K C) v = true := by
      intro v hv
      cases b with
      | false => rw [(send_old hp).2.2.1]; exact hv
      | true => rw [(send_new hp).2.2.1, hasK_push, hv]; rfl
    have hx : hasK (sendK m L K C) (keyOfI m x) = true := by
      cases b with
      | false => rw [(send_old hp).2.2.1]; simpa using p5
      | true => rw [(send_new hp).2.2.1, hasK_push]; simp
    have e : sendL m L K C = L.set i (x.1, x.2.1, 1) := by
      cases b with
      | false => exact (send_old hp).2.1
      | true => exact (send_new hp).2.1
    rw [e]
    intro y hy
    rcases List.mem_or_eq_of_mem_set hy with hy | hy
    · rcases h y hy with h | h
      · exact .inl h
      · exact .inr (hmono _ h)
    · subst hy; exact .inr hx
theorem sent_grows {m : Int} {L : List TItem} {K C : List Int} : K.length ≤ (sent m L K C).2.1.length :=
  sent_ind (fun L' K' C' => K.length ≤ K'.length) (fun L' K' C' h ho => by
    refine Nat.le_trans h ?_
    unfold sendK
    split <;> simp) _ L K C rfl (Nat.le_refl _)
/-- What a finished run and bank are like. -/
theorem fin_spec {m : Int} {L : List TItem} {K C : List Int} (h1 : runOk m L = true) (h2 : bankOk K C = true) (hroom : K.length + L.length < 2000) :
    runOk m (finL m L K C) = true ∧ bankOk (finK m L K C) (finC m L K C) = true ∧ K.length ≤ (finK m L K C).length ∧ ∀ x ∈ finL m L K C, x.2.2 = 2 ∧ hasK (finK m L K C) (keyOfI m x) = true := by
  have hfo : finOk m L K C = true := by rw [finOk, h1, h2]; rfl
  obtain ⟨g1, g2, g3⟩ := fin_yes (L2 := (sent m (confirm m L K C) K C).1) (K2 := (sent m (confirm m L K C) K C).2.1) (C2 := (sent m (confirm m L K C) K C).2.2) hfo rfl
  rw [g1, g2, g3]
  obtain ⟨s1, s2, s3⟩ := sent_all (confirm_ok (K := K) (C := C) h1) h2
  have hsz := sent_size (m := m) (L := confirm m L K C) (K := K) (C := C)
  have hon : opens (confirm m L K C) ≤ L.length := by
    have : opens (confirm m L K C) ≤ (confirm m L K C).length := List.countP_le_length
    rw [confirm_len] at this; exact this
  have hno := no_open (sent_end (m := m) _ (confirm m L K C) K C rfl) s1 s2 (by omega)
  have hpo : paidOr m (sent m (confirm m L K C) K C).1 (sent m (confirm m L K C) K C).2.1 :=
    sent_ind (fun L' K' C' => paidOr m L' K') (fun L' K' C' h ho => paidOr_send h ho) _ _ _ _ rfl (paidOr_confirm h1 h2)
  refine ⟨confirm_ok s1, s2, sent_grows, fun x hx => ?_⟩
  obtain ⟨i, hi⟩ := List.mem_iff_getElem?.1 hx
  have hl := (List.getElem?_eq_some_iff.1 hi).1
  rw [confirm_len] at hl
  have hy := List.getElem?_eq_getElem hl
  rw [confirm_at s1 s2 hy] at hi
  obtain rfl := Option.some.inj hi
  have hk : hasK (sent m (confirm m L K C) K C).2.1 (keyOfI m ((sent m (confirm m L K C) K C).1[i])) = true := by
    rcases hpo _ (List.getElem_mem hl) with h | h
    · unfold opens at hno
      exact absurd h ((List.countP_eq_zero.1 hno) _ (List.getElem_mem hl))
    · exact h
  rw [if_pos hk]
  exact ⟨rfl, hk⟩
/-- How often a key lies in the first entries of a bank. -/
def timesTo (K : List Int) (v : Int) : Nat → Nat
  | 0 => 0
  | n + 1 => if K.getD n 0 = v then timesTo K v n + 1 else timesTo K v n
theorem timesTo_once {K C : List Int} (h : bankOk K C = true) {v : Int} (hv : hasK K v = true) : timesTo K v K.length = 1 := by
  obtain ⟨i, hi⟩ := List.mem_iff_getElem?.1 (hasK_mem.1 hv)
  have hil := (List.getElem?_eq_some_iff.1 hi).1
  have key : ∀ n, n ≤ K.length → timesTo K v n = if i < n then 1 else 0 := by
    intro n
    induction n with
    | zero => intro _; simp [timesTo]
    | succ n ih =>
      intro hn
      have ih := ih (by omega)
      have hx : K[n]? = some K[n] := List.getElem?_eq_getElem (by omega)
      have hg : K.getD n 0 = K[n] := by rw [List.getD, hx]; rfl
      rw [timesTo, hg, ih]
      by_cases e : K[n] = v
      · have := keys_inj h hi (by rw [hx, e])
        subst this
        rw [if_pos e]; simp
      · have : i ≠ n := fun e2 => by subst e2; rw [hx] at hi; exact e (Option.some.inj hi)
        rw [if_neg e]
        by_cases hlt : i < n
        · rw [if_pos hlt, if_pos (by omega)]
        · rw [if_neg hlt, if_neg (by omega)]
  rw [key _ (Nat.le_refl _), if_pos hil]
end Go.Proofs.Ytccgbilgfnoheaa
