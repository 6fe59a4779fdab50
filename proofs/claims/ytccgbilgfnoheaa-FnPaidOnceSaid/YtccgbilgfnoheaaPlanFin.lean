/-
  What Finish does, and what stays valid: plain.
-/
import Derived.Test.YtccgbilgfnoheaaPlanSend
namespace Go.Proofs.Ytccgbilgfnoheaa
open Go.RowKit
set_option linter.unusedVariables false

/-- An item without its state. -/
def bare (x : TItem) : Int × Int := (x.1, x.2.1)
theorem hasM_map (L : List TItem) (v : Int) : hasM L v = (L.map bare).any (fun y => y.1 == v) := by
  unfold hasM
  rw [List.any_map]; rfl
/-- The same items in other states are as valid. -/
theorem runOk_states {m : Int} {L L' : List TItem} (h : runOk m L = true) (hb : L'.map bare = L.map bare) (hs : ∀ x ∈ L', 0 ≤ x.2.2 ∧ x.2.2 ≤ 2) : runOk m L' = true := by
  obtain ⟨a, b, c⟩ := runOk_and h
  have hl : L'.length = L.length := by have := congrArg List.length hb; simpa using this
  rw [runOk, Bool.and_eq_true, Bool.and_eq_true, inB_iff, decide_eq_true_eq]
  refine ⟨⟨allTo_iff.2 fun k hk => ?_, b⟩, by omega⟩
  have hx' : L'[k]? = some L'[k] := List.getElem?_eq_getElem hk
  have hx : L[k]? = some (L[k]'(by omega)) := List.getElem?_eq_getElem (by omega)
  generalize L'[k] = x' at hx'
  generalize L[k]'(by omega) = x at hx
  have e : bare x' = bare x := by
    have h1 : (L'.map bare)[k]? = some (bare x') := by rw [List.getElem?_map, hx']; rfl
    rw [hb, List.getElem?_map, hx] at h1
    exact (Option.some.inj h1).symm
  have e1 : x'.1 = x.1 := congrArg (fun p : Int × Int => p.1) e
  have e2 : x'.2.1 = x.2.1 := congrArg (fun p : Int × Int => p.2) e
  obtain ⟨ok, nm⟩ := a k x hx
  have hst := hs x' (List.mem_of_getElem? hx')
  rw [itemAt_eq hx', Bool.and_eq_true, Bool.not_eq_true', hasM_map, List.map_take, hb, ← List.map_take, ← hasM_map, e1]
  refine ⟨itemOk_iff.2 ?_, nm⟩
  have := itemOk_iff.1 ok
  rw [e1, e2]
  exact ⟨this.1, this.2.1, hst⟩
theorem states_ok {m : Int} {L : List TItem} (h : runOk m L = true) : ∀ x ∈ L, 0 ≤ x.2.2 ∧ x.2.2 ≤ 2 := by
  intro x hx
  obtain ⟨k, hk, rfl⟩ := List.mem_iff_getElem.1 hx
  exact (itemOk_iff.1 ((runOk_and h).1 k _ (List.getElem?_eq_getElem hk)).1).2.2
theorem confirm_bare (m : Int) (L : List TItem) (K C : List Int) : (confirm m L K C).map bare = L.map bare := by
  unfold confirm
  split
  · rw [List.map_map]; rfl
  · rfl
theorem confirm_ok {m : Int} {L : List TItem} {K C : List Int} (h : runOk m L = true) : runOk m (confirm m L K C) = true := by
  refine runOk_states h (confirm_bare m L K C) ?_
  unfold confirm
  split
  · intro x hx
    obtain ⟨y, _, rfl⟩ := List.mem_map.1 hx
    unfold conf; dsimp only; split <;> omega
  · exact states_ok h
theorem plan_some {m : Int} {L : List TItem} {K C : List Int} {i : Nat} {x : TItem} {b : Bool} (h : plan m L K C = some (i, x, b)) : runOk m L = true ∧ bankOk K C = true ∧ L[i]? = some x ∧ isOpn x = true ∧ hasK K (keyOfI m x) = !b ∧ (b = true → K.length < 2000) := by
  unfold plan at h
  split at h
  · rename_i hv
    rw [Bool.and_eq_true] at hv
    split at h
    · cases h
    · rename_i j hj
      split at h
      · cases h
      · rename_i y hy
        have hp : isOpn y = true := by
          obtain ⟨hlt, hp, _⟩ := List.findIdx?_eq_some_iff_getElem.1 hj
          have := (List.getElem?_eq_some_iff.1 hy).2
          rw [← this]; exact hp
        split at h
        · rename_i hk
          injection h with h; injection h with h1 h2; injection h2 with h2 h3
          subst h1 h2 h3
          exact ⟨hv.1, hv.2, hy, hp, hk, fun h => by cases h⟩
        · rename_i hk
          split at h
          · rename_i hl
            injection h with h; injection h with h1 h2; injection h2 with h2 h3
            subst h1 h2 h3
            exact ⟨hv.1, hv.2, hy, hp, by simpa using hk, fun _ => hl⟩
          · cases h
  · cases h
theorem set_sameP {α : Type} {x : α} : ∀ {L : List α} {k : Nat}, L[k]? = some x → L.set k x = L
  | [], _, h => by simp at h
  | y :: L, 0, h => by simp at h; rw [h]; rfl
  | y :: L, k + 1, h => by rw [List.set_cons_succ, set_sameP (by simpa using h)]
theorem set_bare {L : List TItem} {i : Nat} {x : TItem} (hx : L[i]? = some x) (s : Int) : (L.set i (x.1, x.2.1, s)).map bare = L.map bare := by
  rw [List.map_set]
  exact set_sameP (by rw [List.getElem?_map, hx]; rfl)
theorem sendL_bare (m : Int) (L : List TItem) (K C : List Int) : (sendL m L K C).map bare = L.map bare := by
  unfold sendL
  split
  · rename_i i x b h
    exact set_bare (plan_some h).2.2.1 1
  · rfl
theorem sendL_ok {m : Int} {L : List TItem} {K C : List Int} (h : runOk m L = true) : runOk m (sendL m L K C) = true := by
  refine runOk_states h (sendL_bare m L K C) ?_
  unfold sendL
  split
  · intro x hx
    rcases List.mem_or_eq_of_mem_set hx with h' | h'
    · exact states_ok h x h'
    · subst h'; dsimp only; omega
  · exact states_ok h
theorem sendKC_ok {m : Int} {L : List TItem} {K C : List Int} (h : bankOk K C = true) : bankOk (sendK m L K C) (sendC m L K C) = true := by
  cases hp : plan m L K C with
  | none => obtain ⟨_, _, b, c⟩ := send_none hp; rw [b, c]; exact h
  | some z =>
    obtain ⟨i, x, b⟩ := z
    obtain ⟨h1, h2, h3, h4, h5, h6⟩ := plan_some hp
    cases b with
    | false => obtain ⟨_, _, b, c⟩ := send_old hp; rw [b, c]; exact h
    | true =>
      obtain ⟨_, _, b, c⟩ := send_new hp
      obtain ⟨k1, k2⟩ := key_range h1 h3
      rw [b, c, bankOk_push h (by simpa using h5) k1 k2]
      simpa using h6 rfl

/-- How many items are open. -/
def opens (L : List TItem) : Nat := L.countP isOpn
theorem opens_set : ∀ {L : List TItem} {i : Nat} {x y : TItem}, L[i]? = some x → isOpn x = true → isOpn y = false → opens (L.set i y) + 1 = opens L
  | [], _, _, _, h, _, _ => by simp at h
  | z :: L, 0, x, y, h, h1, h2 => by
    simp at h; subst h
    simp [opens, h1, h2]
  | z :: L, i + 1, x, y, h, h1, h2 => by
    have := opens_set (L := L) (i := i) (x := x) (y := y) (by simpa using h) h1 h2
    unfold opens at this ⊢
    rw [List.set_cons_succ, List.countP_cons, List.countP_cons]
    omega
theorem opens_send {m : Int} {L : List TItem} {K C : List Int} (h : sendOk m L K C = true) : opens (sendL m L K C) + 1 = opens L := by
  unfold sendOk at h
  cases hp : plan m L K C with
  | none => rw [hp] at h; cases h
  | some z =>
    obtain ⟨i, x, b⟩ := z
    obtain ⟨_, _, h3, h4, _⟩ := plan_some hp
    unfold sendL
    rw [hp]
    exact opens_set h3 h4 rfl
/-- All open items are sent, as far as the bank takes them. -/
def sendAll (m : Int) : Nat → List TItem → List Int → List Int → List TItem × List Int × List Int
  | 0, L, K, C => (L, K, C)
  | n + 1, L, K, C => if sendOk m L K C = true then sendAll m n (sendL m L K C) (sendK m L K C) (sendC m L K C) else (L, K, C)
def sent (m : Int) (L : List TItem) (K C : List Int) : List TItem × List Int × List Int := sendAll m (opens L) L K C
theorem sent_no {m : Int} {L : List TItem} {K C : List Int} (h : sendOk m L K C = false) : sent m L K C = (L, K, C) := by
  unfold sent
  cases opens L with
  | zero => rfl
  | succ n => rw [sendAll, if_neg (by rw [h]; simp)]
theorem sent_yes {m : Int} {L : List TItem} {K C : List Int} (h : sendOk m L K C = true) : sent m L K C = sent m (sendL m L K C) (sendK m L K C) (sendC m L K C) := by
  have := opens_send h
  unfold sent
  rw [← this, sendAll, if_pos h]
theorem send_fix {m : Int} {L : List TItem} {K C : List Int} (h : sendOk m L K C = false) : sendL m L K C = L ∧ sendK m L K C = K ∧ sendC m L K C = C := by
  have : plan m L K C = none := by
    unfold sendOk at h
    cases hp : plan m L K C with
    | none => rfl
    | some z => rw [hp] at h; cases h
  exact (send_none this).2
/-- A property that each send keeps. -/
theorem sent_ind {m : Int} (P : List TItem → List Int → List Int → Prop) (hP : ∀ L K C, P L K C → sendOk m L K C = true → P (sendL m L K C) (sendK m L K C) (sendC m L K C)) :
    ∀ (n : Nat) (L : List TItem) (K C : List Int), opens L = n → P L K C → P (sent m L K C).1 (sent m L K C).2.1 (sent m L K C).2.2
  | n, L, K, C, hn, h => by
    cases ho : sendOk m L K C
    · rw [sent_no ho]; exact h
    · have h1 := opens_send ho
      rw [sent_yes ho]
      exact sent_ind P hP (n - 1) _ _ _ (by omega) (hP L K C h ho)
  termination_by n L => opens L
  decreasing_by have := opens_send ho; omega
/-- No more is sent then. -/
theorem sent_end {m : Int} : ∀ (n : Nat) (L : List TItem) (K C : List Int), opens L = n → sendOk m (sent m L K C).1 (sent m L K C).2.1 (sent m L K C).2.2 = false
  | n, L, K, C, hn => by
    cases ho : sendOk m L K C
    · rw [sent_no ho]; exact ho
    · have h1 := opens_send ho
      rw [sent_yes ho]
      exact sent_end (n - 1) _ _ _ (by omega)
  termination_by n L => opens L
  decreasing_by have := opens_send ho; omega
def finOk (m : Int) (L : List TItem) (K C : List Int) : Bool := runOk m L && bankOk K C
def finP (m : Int) (L : List TItem) (K C : List Int) : List TItem × List Int × List Int :=
  if finOk m L K C = true then (confirm m (sent m (confirm m L K C) K C).1 (sent m (confirm m L K C) K C).2.1 (sent m (confirm m L K C) K C).2.2, (sent m (confirm m L K C) K C).2) else (L, K, C)
def finL (m : Int) (L : List TItem) (K C : List Int) : List TItem := (finP m L K C).1
def finK (m : Int) (L : List TItem) (K C : List Int) : List Int := (finP m L K C).2.1
def finC (m : Int) (L : List TItem) (K C : List Int) : List Int := (finP m L K C).2.2
theorem fin_no {m : Int} {L : List TItem} {K C : List Int} (h : finOk m L K C = false) : finL m L K C = L ∧ finK m L K C = K ∧ finC m L K C = C := by simp [finL, finK, finC, finP, h]
theorem fin_yes {m : Int} {L L2 : List TItem} {K2 C2 : List Int} {K0 C0 : List Int} (h : finOk m L K0 C0 = true) (hs : sent m (confirm m L K0 C0) K0 C0 = (L2, K2, C2)) :
    finL m L K0 C0 = confirm m L2 K2 C2 ∧ finK m L K0 C0 = K2 ∧ finC m L K0 C0 = C2 := by
  simp [finL, finK, finC, finP, h, hs]
theorem sent_all {m : Int} {L : List TItem} {K C : List Int} (h1 : runOk m L = true) (h2 : bankOk K C = true) :
    runOk m (sent m L K C).1 = true ∧ bankOk (sent m L K C).2.1 (sent m L K C).2.2 = true ∧ (sent m L K C).1.map bare = L.map bare :=
  sent_ind (fun L' K' C' => runOk m L' = true ∧ bankOk K' C' = true ∧ L'.map bare = L.map bare) (fun L' K' C' h _ => ⟨sendL_ok h.1, sendKC_ok h.2.1, (sendL_bare _ _ _ _).trans h.2.2⟩) _ L K C rfl ⟨h1, h2, rfl⟩
theorem finL_len (m : Int) (L : List TItem) (K C : List Int) : (finL m L K C).length = L.length := by
  cases h : finOk m L K C
  · rw [(fin_no h).1]
  · have h' := h
    simp only [finOk, Bool.and_eq_true] at h'
    obtain ⟨a, b, c⟩ := sent_all (confirm_ok (K := K) (C := C) h'.1) h'.2
    unfold finL finP
    rw [if_pos h]
    show (confirm _ _ _ _).length = _
    have := congrArg List.length c
    rw [confirm_len]
    simp [confirm_len] at this
    omega
theorem finKC_len (m : Int) (L : List TItem) (K C : List Int) : (finK m L K C).length ≤ K.length + 2000 ∧ (finC m L K C).length ≤ C.length + 2000 := by
  cases h : finOk m L K C
  · rw [(fin_no h).2.1, (fin_no h).2.2]; omega
  · have h' := h
    simp only [finOk, Bool.and_eq_true] at h'
    obtain ⟨a, b, c⟩ := sent_all (confirm_ok (K := K) (C := C) h'.1) h'.2
    have hb := bankOk_iff.1 b
    have e1 : finK m L K C = (sent m (confirm m L K C) K C).2.1 := by unfold finK finP; rw [if_pos h]
    have e2 : finC m L K C = (sent m (confirm m L K C) K C).2.2 := by unfold finC finP; rw [if_pos h]
    rw [e1, e2]
    omega
end Go.Proofs.Ytccgbilgfnoheaa
