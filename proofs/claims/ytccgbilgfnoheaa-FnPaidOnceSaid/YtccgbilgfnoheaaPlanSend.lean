/-
  What SendNext does: plain.
-/
import Derived.Test.YtccgbilgfnoheaaCrashS
namespace Go.Proofs.Ytccgbilgfnoheaa
open Go.RowKit

def isOpn (x : TItem) : Bool := x.2.2 == 0
def keyOfI (m : Int) (x : TItem) : Int := m * 1000 + x.1
/-- The item that is sent next, and whether its key is new to the bank. -/
def plan (m : Int) (L : List TItem) (K C : List Int) : Option (Nat × TItem × Bool) :=
  if (runOk m L && bankOk K C) = true then
    match L.findIdx? isOpn with
    | none => none
    | some i => match L[i]? with
      | none => none
      | some x => if hasK K (keyOfI m x) = true then some (i, x, false) else if K.length < 2000 then some (i, x, true) else none
  else none
def sendOk (m : Int) (L : List TItem) (K C : List Int) : Bool := (plan m L K C).isSome
def sendL (m : Int) (L : List TItem) (K C : List Int) : List TItem := match plan m L K C with | some (i, x, _) => L.set i (x.1, x.2.1, 1) | none => L
def sendK (m : Int) (L : List TItem) (K C : List Int) : List Int := match plan m L K C with | some (_, x, true) => K ++ [keyOfI m x] | _ => K
def sendC (m : Int) (L : List TItem) (K C : List Int) : List Int := match plan m L K C with | some (_, x, true) => C ++ [x.2.1] | _ => C
theorem send_none {m : Int} {L : List TItem} {K C : List Int} (h : plan m L K C = none) : sendOk m L K C = false ∧ sendL m L K C = L ∧ sendK m L K C = K ∧ sendC m L K C = C := by simp [sendOk, sendL, sendK, sendC, h]
theorem send_old {m : Int} {L : List TItem} {K C : List Int} {i : Nat} {x : TItem} (h : plan m L K C = some (i, x, false)) : sendOk m L K C = true ∧ sendL m L K C = L.set i (x.1, x.2.1, 1) ∧ sendK m L K C = K ∧ sendC m L K C = C := by simp [sendOk, sendL, sendK, sendC, h]
theorem send_new {m : Int} {L : List TItem} {K C : List Int} {i : Nat} {x : TItem} (h : plan m L K C = some (i, x, true)) : sendOk m L K C = true ∧ sendL m L K C = L.set i (x.1, x.2.1, 1) ∧ sendK m L K C = K ++ [keyOfI m x] ∧ sendC m L K C = C ++ [x.2.1] := by simp [sendOk, sendL, sendK, sendC, h]
theorem sendL_len (m : Int) (L : List TItem) (K C : List Int) : (sendL m L K C).length = L.length := by unfold sendL; split <;> simp
theorem sendK_len (m : Int) (L : List TItem) (K C : List Int) : (sendK m L K C).length ≤ K.length + 1 := by unfold sendK; split <;> simp
theorem sendC_len (m : Int) (L : List TItem) (K C : List Int) : (sendC m L K C).length ≤ C.length + 1 := by unfold sendC; split <;> simp

theorem plan_bad {m : Int} {L : List TItem} {K C : List Int} (h : (runOk m L && bankOk K C) = false) : plan m L K C = none := by simp [plan, h]
theorem found_none {L : List TItem} (h : L.all (fun x => !isOpn x) = true) : L.findIdx? isOpn = none := by
  rw [List.findIdx?_eq_none_iff]
  intro x hx
  have := List.all_eq_true.1 h x hx
  simpa using this
theorem found_some {L : List TItem} {i : Nat} {x : TItem} (hx : L[i]? = some x) (hp : isOpn x = true) (h : (L.take i).all (fun x => !isOpn x) = true) : L.findIdx? isOpn = some i := by
  rw [List.findIdx?_eq_some_iff_getElem]
  obtain ⟨hi, e⟩ := List.getElem?_eq_some_iff.1 hx
  refine ⟨hi, by rw [e]; exact hp, fun j hj => ?_⟩
  have hm : L[j] ∈ L.take i := by
    rw [List.mem_take_iff_getElem]
    exact ⟨j, by omega, rfl⟩
  have := List.all_eq_true.1 h _ hm
  simpa using this
theorem plan_no {m : Int} {L : List TItem} {K C : List Int} (h : L.all (fun x => !isOpn x) = true) : plan m L K C = none := by
  unfold plan; rw [found_none h]; split <;> rfl
section
variable {m : Int} {L : List TItem} {K C : List Int} {i : Nat} {x : TItem} (h1 : runOk m L = true) (h2 : bankOk K C = true) (hx : L[i]? = some x) (hp : isOpn x = true) (h : (L.take i).all (fun x => !isOpn x) = true)
include h1 h2 hx hp h
theorem plan_old (hk : hasK K (keyOfI m x) = true) : plan m L K C = some (i, x, false) := by
  unfold plan; rw [found_some hx hp h]; simp [h1, h2, hx, hk]
theorem plan_new (hk : hasK K (keyOfI m x) = false) (hl : K.length < 2000) : plan m L K C = some (i, x, true) := by
  unfold plan; rw [found_some hx hp h]; simp [h1, h2, hx, hk, hl]
theorem plan_full (hk : hasK K (keyOfI m x) = false) (hl : ¬ K.length < 2000) : plan m L K C = none := by
  unfold plan; rw [found_some hx hp h]; simp [h1, h2, hx, hk, hl]
end
theorem bankOk_iff {K C : List Int} : bankOk K C = true ↔ K.length = C.length ∧ K.length ≤ 2000 ∧ ∀ (i : Nat) (x y : Int), K[i]? = some x → C[i]? = some y → (0 ≤ x ∧ x ≤ 3599999) ∧ (0 ≤ y ∧ y ≤ 10000000) ∧ hasK (K.take i) x = false := by
  simp only [bankOk, Bool.and_eq_true, decide_eq_true_eq, and_assoc]
  constructor
  · rintro ⟨a, b, c⟩
    refine ⟨a, b, fun i x y hx hy => ?_⟩
    have := allTo_iff.1 c i (List.getElem?_eq_some_iff.1 hx).1
    rw [bankAt_eq hx hy] at this
    simp only [Bool.and_eq_true, inB_iff, Bool.not_eq_true'] at this
    exact ⟨this.1.1.1, this.1.1.2, this.1.2.1, this.1.2.2, this.2⟩
  · rintro ⟨a, b, c⟩
    refine ⟨a, b, allTo_iff.2 fun i hi => ?_⟩
    have hx : K[i]? = some K[i] := List.getElem?_eq_getElem hi
    have hy : C[i]? = some (C[i]'(by omega)) := List.getElem?_eq_getElem (by omega)
    obtain ⟨p1, p2, q1, q2, r⟩ := c i _ _ hx hy
    rw [bankAt_eq hx hy]
    simp only [Bool.and_eq_true, inB_iff, Bool.not_eq_true']
    exact ⟨⟨⟨p1, p2⟩, ⟨q1, q2⟩⟩, r⟩
/-- A valid bank takes a new key. -/
theorem bankOk_push {K C : List Int} {k c : Int} (h : bankOk K C = true) (hk : hasK K k = false) (h0 : 0 ≤ k ∧ k ≤ 3599999) (hc : 0 ≤ c ∧ c ≤ 10000000) : bankOk (K ++ [k]) (C ++ [c]) = decide (K.length < 2000) := by
  obtain ⟨a, b, f⟩ := bankOk_iff.1 h
  by_cases hl : K.length < 2000
  · rw [decide_eq_true hl, bankOk_iff]
    refine ⟨by simp [a], by simp; omega, fun i x y hx hy => ?_⟩
    by_cases hi : i < K.length
    · rw [List.getElem?_append_left hi] at hx
      rw [List.getElem?_append_left (by omega)] at hy
      rw [List.take_append_of_le_length (by omega)]
      exact f i x y hx hy
    · have hi2 : i = K.length := by have := (List.getElem?_eq_some_iff.1 hx).1; simp at this; omega
      subst hi2
      rw [List.getElem?_append_right (Nat.le_refl _), Nat.sub_self] at hx
      rw [List.getElem?_append_right (by omega), a, Nat.sub_self] at hy
      simp at hx hy
      subst hx hy
      rw [List.take_append_of_le_length (Nat.le_refl _), List.take_length]
      exact ⟨h0, hc, hk⟩
  · rw [decide_eq_false hl, ← Bool.not_eq_true, bankOk_iff]
    rintro ⟨_, h2, _⟩
    simp at h2; omega
theorem key_range {m : Int} {L : List TItem} (h : runOk m L = true) {i : Nat} {x : TItem} (hx : L[i]? = some x) : (0 ≤ keyOfI m x ∧ keyOfI m x ≤ 3599999) ∧ 0 ≤ x.2.1 ∧ x.2.1 ≤ 10000000 := by
  obtain ⟨a, b, c⟩ := runOk_and h
  have := itemOk_iff.1 (a i x hx).1
  unfold keyOfI
  omega
/-- What Accept says of an item's key. -/
theorem acc_send {m : Int} {L : List TItem} {K C : List Int} (h1 : runOk m L = true) (h2 : bankOk K C = true) {i : Nat} {x : TItem} (hx : L[i]? = some x) : accOk K C (keyOfI m x) x.2.1 = (!hasK K (keyOfI m x) && decide (K.length < 2000)) := by
  obtain ⟨a, b⟩ := key_range h1 hx
  unfold accOk
  cases hk : hasK K (keyOfI m x)
  · rw [h2, bankOk_push h2 hk a b]; rfl
  · rfl
end Go.Proofs.Ytccgbilgfnoheaa
