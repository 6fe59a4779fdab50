/-
  A region that draws its order, by an invariant over what has come up: no function of the program is named here.
-/
import Derived.Test.YtjfmknhnplefnaaGreatZRec
import Derived.Orders
namespace Go.Proofs.YtjfmknhnplefnaaGreat
open Go.RowKit

section
variable {P : Program} {ops : Array Oper} {Q : Exit → Act → World → Prop}

/-- Number i has come up besides. -/
def upd (l : Nat → Bool) (i : Nat) : Nat → Bool := fun k => Nat.beq k i || l k
/-- A slot is filled besides. -/
def updT (t : Nat → Value) (i : Nat) (v : Value) : Nat → Value := fun k => if k = i then v else t k

/-- Every operation that may come up keeps the invariant. -/
def StepAll (P : Program) (Q : Exit → Act → World → Prop) (I : (Nat → Bool) → Act → World → Prop) : List Oper → Nat → Prop
  | [], _ => True
  | o :: rest, i => (o.guard = none ∧ ∀ l a w (K : Act → World → Prop), (∀ a' w', I (upd l i) a' w' → K a' w') → I l a w → l i = false → (o.after.toList.all fun e => !Region.binds .any e || l e.on) = true → o.wp P a w K Q) ∧ StepAll P Q I rest (i + 1)
theorem StepAll.get {I : (Nat → Bool) → Act → World → Prop} : ∀ {os : List Oper} {n : Nat}, StepAll P Q I os n → ∀ {j : Nat} {o : Oper}, os[j]? = some o →
    o.guard = none ∧ ∀ l a w (K : Act → World → Prop), (∀ a' w', I (upd l (n + j)) a' w' → K a' w') → I l a w → l (n + j) = false → (o.after.toList.all fun e => !Region.binds .any e || l e.on) = true → o.wp P a w K Q
  | [], _, _, _, _, h => by simp at h
  | _ :: _, n, hs, 0, o, h => by simp at h; subst h; exact hs.1
  | _ :: os, n, hs, j + 1, o, h => by
    have := StepAll.get (os := os) hs.2 (j := j) (by simpa using h)
    rw [show n + 1 + j = n + (j + 1) by omega] at this
    exact this

def edgesBack (ops : Array Oper) : Bool := (List.range ops.size).all fun i => match ops[i]? with | none => true | some o => o.after.toList.all fun e => !Region.binds .any e || decide (e.on < i)
theorem edgesBack_spec (h : edgesBack ops = true) {i : Nat} {o : Oper} (ho : ops[i]? = some o) {e : Edge} (he : e ∈ o.after.toList) (hb : Region.binds .any e = true) : e.on < i := by
  have hi : i < ops.size := (Array.getElem?_eq_some_iff.1 ho).1
  have h1 := List.all_eq_true.1 h i (List.mem_range.2 hi)
  rw [ho] at h1
  have h2 := List.all_eq_true.1 h1 e he
  simpa [hb] using h2
/-- Where nothing may come up, all has come up. -/
theorem all_listed (h : edgesBack ops = true) {listed : Array Bool} (hz : listed.size = ops.size) (hr : Region.ready .any ops listed = []) : ∀ i, i < ops.size → listed.getD i false = true := by
  intro i
  induction i using Nat.strongRecOn with
  | ind i ih =>
    intro hi
    by_cases hl : listed.getD i false = true
    · exact hl
    · exfalso
      have hu : listed.getD i true = false := by
        rw [Array.getD_eq_getD_getElem?] at hl ⊢
        rw [Array.getElem?_eq_getElem (by omega)] at hl ⊢
        simpa using hl
      have : i ∈ Region.ready .any ops listed := mem_ready.2 ⟨hu, ops[i], by rw [Array.getElem?_eq_getElem hi], fun e he hb => by
        have := edgesBack_spec h (Array.getElem?_eq_getElem hi) (by simpa using he) hb
        exact ih _ this (by omega)⟩
      rw [hr] at this
      cases this
theorem wpAny_inv (he : edgesBack ops = true) (I : (Nat → Bool) → Act → World → Prop) (hs : StepAll P Q I ops.toList 0) (hf : ∀ l a w, (∀ i, i < ops.size → l i = true) → I l a w → Q .normal a w) :
    ∀ (fuel : Nat) (listed : Array Bool) (a : Act) (w : World), listed.size = ops.size → I (fun i => listed.getD i false) a w → ((List.range ops.size).filter fun i => !listed.getD i false).length ≤ fuel → wpAny P .any ops Q fuel listed a w
  | 0, listed, a, w, hz, hI, hn => by
    have hall : ∀ i, i < ops.size → listed.getD i false = true := fun i hi => by
      have h0 : (List.range ops.size).filter (fun i => !listed.getD i false) = [] := List.eq_nil_of_length_eq_zero (by omega)
      have := (List.filter_eq_nil_iff.1 h0) i (List.mem_range.2 hi)
      simpa using this
    refine ⟨?_, hf _ _ _ hall hI⟩
    refine List.eq_nil_iff_forall_not_mem.2 fun i hi => ?_
    obtain ⟨h1, o, h2, _⟩ := mem_ready.1 hi
    have h3 := hall i (Array.getElem?_eq_some_iff.1 h2).1
    have h4 : i < listed.size := by rw [hz]; exact (Array.getElem?_eq_some_iff.1 h2).1
    rw [Array.getD_eq_getD_getElem?, Array.getElem?_eq_getElem h4] at h1 h3
    simp at h1 h3
    rw [h1] at h3
    cases h3
  | fuel + 1, listed, a, w, hz, hI, hn => by
    refine ⟨fun hr => hf _ _ _ (all_listed he hz hr) hI, fun i hi => ?_⟩
    obtain ⟨h1, o, h2, h3⟩ := mem_ready.1 hi
    have hi' : i < ops.size := (Array.getElem?_eq_some_iff.1 h2).1
    have hs' := StepAll.get hs (j := i) (o := o) (by simpa using h2)
    rw [Nat.zero_add] at hs'
    unfold wpOp
    rw [h2]
    dsimp only
    rw [if_pos (by simp [Region.wanted, hs'.1])]
    refine .inl (hs'.2 _ a w _ (fun a' w' h => ?_) hI ?_ ?_)
    · refine wpAny_inv he I hs hf fuel _ a' w' (by simpa using hz) ?_ ?_
      · have : (fun k => (listed.setIfInBounds i true).getD k false) = upd (fun i => listed.getD i false) i := by
          funext k
          unfold upd
          by_cases hk : k = i
          · subst hk
            rw [Nat.beq_refl, Bool.true_or, Array.getD_eq_getD_getElem?, Array.getElem?_setIfInBounds_self_of_lt (by omega)]; rfl
          · rw [show Nat.beq k i = false from Bool.eq_false_iff.2 fun h => hk (Nat.eq_of_beq_eq_true h), Bool.false_or]
            show _ = listed.getD k false
            rw [Array.getD_eq_getD_getElem?, Array.getD_eq_getD_getElem?, Array.getElem?_setIfInBounds_ne (by omega)]
        rw [this]
        exact h
      · have hlt : ((List.range ops.size).filter fun k => !(listed.setIfInBounds i true).getD k false).length < ((List.range ops.size).filter fun k => !listed.getD k false).length := by
          have hfl : listed.getD i false = false := by
            rw [Array.getD_eq_getD_getElem?, Array.getElem?_eq_getElem (by omega)] at h1 ⊢
            simpa using h1
          have e : ((List.range ops.size).filter fun k => !(listed.setIfInBounds i true).getD k false) = (((List.range ops.size).filter fun k => !listed.getD k false).filter fun k => k != i) := by
            rw [List.filter_filter]
            refine List.filter_congr fun k hk => ?_
            by_cases hki : k = i
            · subst hki
              rw [Array.getD_eq_getD_getElem?, Array.getElem?_setIfInBounds_self_of_lt (by omega)]; simp
            · rw [Array.getD_eq_getD_getElem?, Array.getD_eq_getD_getElem?, Array.getElem?_setIfInBounds_ne (by omega)]; simp [hki]
          rw [e]
          refine List.length_filter_lt_length_iff_exists.2 ⟨i, ?_, by simp⟩
          refine List.mem_filter.2 ⟨List.mem_range.2 hi', by simp [hfl]⟩
        omega
    · show listed.getD i false = false
      rw [Array.getD_eq_getD_getElem?, Array.getElem?_eq_getElem (by omega)] at h1 ⊢
      simpa using h1
    · refine List.all_eq_true.2 fun e he' => ?_
      cases hb : Region.binds .any e
      · rfl
      · have := h3 e (by simpa using he') hb
        simpa using this
theorem wp_region_inv {id : Nat} {a : Act} {w : World} (hm : P.follows .mixedOrders = true) (he : edgesBack ops = true) (I : (Nat → Bool) → Act → World → Prop) (h0 : I (fun _ => false) a w.drew)
    (hs : StepAll P Q I ops.toList 0) (hf : ∀ l a w, (∀ i, i < ops.size → l i = true) → I l a w → Q .normal a w) : (Code.region id ops true).wp P Q a w := by
  refine wp_region_any hm (wpAny_inv he I hs hf _ _ _ _ (by simp) ?_ ?_)
  · have : (fun i => (Array.replicate ops.size false).getD i false) = fun _ => false := by
      funext i
      rw [Array.getD_eq_getD_getElem?]
      by_cases hi : i < ops.size
      · simp [hi]
      · simp [hi]
    rw [this]
    exact h0
  · refine Nat.le_trans (List.length_filter_le _ _) (by simp)
/-- A frame some of whose slots are filled. -/
def fill (a : Act) (slots : List Nat) (t : Nat → Value) : Act := slots.foldl (fun a i => a.put (some i) (t i)) a
theorem put_own (a : Act) (i : Nat) : a.put (some i) (a.tmps.getD i undef) = a := by
  obtain ⟨x, d⟩ := a
  show Act.mk _ _ = _
  congr 1
  apply Array.ext
  · simp
  · intro k h1 h2
    rw [Array.getElem_setIfInBounds]
    split
    · rename_i h; subst h; rw [Array.getD_eq_getD_getElem?, Array.getElem?_eq_getElem h2]; rfl
    · rfl
theorem fill_own (a : Act) : ∀ (slots : List Nat), fill a slots (fun k => a.tmps.getD k undef) = a
  | [] => rfl
  | i :: r => by
    show fill (a.put (some i) (a.tmps.getD i undef)) r _ = a
    rw [put_own]
    exact fill_own a r
/-- Every operation that may come up keeps what is said of the slots. -/
def StepFill (P : Program) (Q : Exit → Act → World → Prop) (b : Act) (slots : List Nat) (J : (Nat → Bool) → (Nat → Value) → World → Prop) : List Oper → Nat → Prop
  | [], _ => True
  | o :: rest, i => (o.guard = none ∧ ∀ l t w (K : Act → World → Prop), (∀ t' w', J (upd l i) t' w' → K (fill b slots t') w') → J l t w → l i = false → (o.after.toList.all fun e => !Region.binds .any e || l e.on) = true → o.wp P (fill b slots t) w K Q) ∧ StepFill P Q b slots J rest (i + 1)
theorem StepFill.all {b : Act} {slots : List Nat} {J : (Nat → Bool) → (Nat → Value) → World → Prop} : ∀ {os : List Oper} {n : Nat}, StepFill P Q b slots J os n → StepAll P Q (fun l a' w' => ∃ t, a' = fill b slots t ∧ J l t w') os n
  | [], _, _ => trivial
  | _ :: _, _, h => ⟨⟨h.1.1, fun l a w K hK ⟨t, e, hJ⟩ h1 h2 => by subst e; exact h.1.2 l t w K (fun t' w' hJ' => hK _ _ ⟨t', rfl, hJ'⟩) hJ h1 h2⟩, StepFill.all h.2⟩
/-- The same with the slots of the region's own. -/
theorem wp_region_fill {id : Nat} {a : Act} {w : World} (slots : List Nat) (hm : P.follows .mixedOrders = true) (he : edgesBack ops = true) (J : (Nat → Bool) → (Nat → Value) → World → Prop) (h0 : J (fun _ => false) (fun k => a.tmps.getD k undef) w.drew)
    (hs : StepFill P Q a slots J ops.toList 0) (hf : ∀ l t w, (∀ i, i < ops.size → l i = true) → J l t w → Q .normal (fill a slots t) w) : (Code.region id ops true).wp P Q a w :=
  wp_region_inv hm he _ ⟨_, (fill_own a slots).symm, h0⟩ (StepFill.all hs) fun l a' w' hl ⟨t, h, hJ⟩ => by subst h; exact hf l t w' hl hJ
end
end Go.Proofs.YtjfmknhnplefnaaGreat
