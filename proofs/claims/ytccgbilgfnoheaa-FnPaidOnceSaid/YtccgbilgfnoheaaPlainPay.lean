/-
  Payments: what a run that is finished has paid. Plain.
-/
import Derived.Test.YtccgbilgfnoheaaPlanFin
import Derived.Test.YtccgbilgfnoheaaRunNew
namespace Go.Proofs.Ytccgbilgfnoheaa
open Go.RowKit
set_option linter.unusedVariables false

/-! Sums -/
theorem sumTo_sum : ∀ (l : List Int) (k : Nat), sumTo l k = (l.take k).sum
  | l, 0 => by simp [sumTo]
  | l, k + 1 => by
    rw [sumTo, sumTo_sum l k, List.take_add_one]
    rcases h : l[k]? with _ | x
    · simp [List.getD, h]
    · simp [List.getD, h, List.sum_append]
theorem sum_set : ∀ {l : List Int} {i : Nat} {x v : Int}, l[i]? = some x → (l.set i v).sum = l.sum - x + v
  | [], _, _, _, h => by simp at h
  | y :: l, 0, x, v, h => by simp at h; subst h; simp; omega
  | y :: l, i + 1, x, v, h => by
    have := sum_set (l := l) (i := i) (x := x) (v := v) (by simpa using h)
    simp only [List.set_cons_succ, List.sum_cons, this]; omega
theorem sum_bound : ∀ {l : List Int} {b : Int}, (∀ x ∈ l, 0 ≤ x ∧ x ≤ b) → 0 ≤ l.sum ∧ l.sum ≤ b * (l.length : Int)
  | [], b, _ => by simp
  | y :: l, b, h => by
    have h1 := sum_bound (l := l) (b := b) (fun x hx => h x (List.mem_cons_of_mem _ hx))
    have h2 := h y (List.mem_cons_self ..)
    simp only [List.sum_cons, List.length_cons]
    have : b * ((l.length + 1 : Nat) : Int) = b * (l.length : Int) + b := by
      rw [Int.natCast_add, Int.mul_add]; simp
    omega

/-- What an open item still has to bring. -/
def owes (m : Int) (K : List Int) (x : TItem) : Int := if isOpn x && !hasK K (keyOfI m x) then x.2.1 else 0
def pend (m : Int) (L : List TItem) (K : List Int) : Int := (L.map (owes m K)).sum
theorem hasK_push (K : List Int) (k v : Int) : hasK (K ++ [k]) v = (hasK K v || k == v) := by simp [hasK, List.any_append]
/-- Keys of items of a valid run differ. -/
theorem keys_ne {m : Int} {L : List TItem} (h : runOk m L = true) {i j : Nat} {x y : TItem} (hx : L[i]? = some x) (hy : L[j]? = some y) (hij : i ≠ j) : keyOfI m x ≠ keyOfI m y := by
  obtain ⟨a, _⟩ := runOk_and h
  have key : ∀ {i j : Nat} {x y : TItem}, L[i]? = some x → L[j]? = some y → i < j → x.1 ≠ y.1 := by
    intro i j x y hx hy hlt e
    have hm := (a j y hy).2
    have : hasM (L.take j) y.1 = true := hasM_yes (k := i) (x := x) (by rw [List.getElem?_take_of_lt hlt]; exact hx) (by simp [e])
    rw [this] at hm; cases hm
  have hne : x.1 ≠ y.1 := by
    rcases Nat.lt_or_gt_of_ne hij with h | h
    · exact key hx hy h
    · exact fun e => key hy hx h e.symm
  unfold keyOfI
  omega
theorem pend_old {m : Int} {L : List TItem} {K : List Int} {i : Nat} {x : TItem} (hx : L[i]? = some x) (hk : hasK K (keyOfI m x) = true) : pend m (L.set i (x.1, x.2.1, 1)) K = pend m L K := by
  unfold pend
  have h1 : (L.map (owes m K))[i]? = some 0 := by rw [List.getElem?_map, hx]; simp [owes, hk]
  rw [List.map_set, sum_set h1]
  simp [owes, isOpn]
theorem pend_new {m : Int} {L : List TItem} {K : List Int} {i : Nat} {x : TItem} (h : runOk m L = true) (hx : L[i]? = some x) (hp : isOpn x = true) (hk : hasK K (keyOfI m x) = false) : pend m (L.set i (x.1, x.2.1, 1)) (K ++ [keyOfI m x]) + x.2.1 = pend m L K := by
  unfold pend
  have h1 : (L.map (owes m K))[i]? = some x.2.1 := by rw [List.getElem?_map, hx]; simp [owes, hk, hp]
  have e : (L.set i (x.1, x.2.1, 1)).map (owes m (K ++ [keyOfI m x])) = (L.map (owes m K)).set i 0 := by
    apply List.ext_getElem?
    intro j
    rw [List.getElem?_map, List.getElem?_set, List.getElem?_set]
    by_cases hij : i = j
    · subst hij
      have hi := (List.getElem?_eq_some_iff.1 hx).1
      simp [hi, owes, isOpn]
    · rw [if_neg hij, if_neg hij, List.getElem?_map]
      cases hy : L[j]? with
      | none => rfl
      | some y =>
        have hne := keys_ne h hx hy hij
        simp [owes, hasK_push, hne]
  rw [e, sum_set h1]
  omega
theorem sum_push (C : List Int) (c : Int) : (C ++ [c]).sum = C.sum + c := by simp [List.sum_append]
/-- What the bank holds and what is pending, together. -/
theorem paid_same {m : Int} {L : List TItem} {K C : List Int} (h : sendOk m L K C = true) : (sendC m L K C).sum + pend m (sendL m L K C) (sendK m L K C) = C.sum + pend m L K := by
  unfold sendOk at h
  cases hp : plan m L K C with
  | none => rw [hp] at h; cases h
  | some z =>
    obtain ⟨i, x, b⟩ := z
    obtain ⟨h1, h2, h3, h4, h5, h6⟩ := plan_some hp
    cases b with
    | false =>
      obtain ⟨_, a, b, c⟩ := send_old hp
      rw [a, b, c, pend_old h3 (by simpa using h5)]
    | true =>
      obtain ⟨_, a, b, c⟩ := send_new hp
      have := pend_new h1 h3 h4 (by simpa using h5)
      rw [a, b, c, sum_push]; omega
theorem sent_paid {m : Int} {L : List TItem} {K C : List Int} : (sent m L K C).2.2.sum + pend m (sent m L K C).1 (sent m L K C).2.1 = C.sum + pend m L K :=
  sent_ind (fun L' K' C' => C'.sum + pend m L' K' = C.sum + pend m L K) (fun L' K' C' h ho => by rw [paid_same ho]; exact h) _ L K C rfl rfl
/-- How full the bank may become. -/
theorem sent_size {m : Int} {L : List TItem} {K C : List Int} : (sent m L K C).2.1.length + opens (sent m L K C).1 ≤ K.length + opens L :=
  sent_ind (fun L' K' C' => K'.length + opens L' ≤ K.length + opens L) (fun L' K' C' h ho => by
    have h1 := opens_send ho
    have h2 := sendK_len m L' K' C'
    omega) _ L K C rfl (Nat.le_refl _)
/-- Where there is room nothing stays open. -/
theorem no_open {m : Int} {L : List TItem} {K C : List Int} (h : sendOk m L K C = false) (h1 : runOk m L = true) (h2 : bankOk K C = true) (hl : K.length < 2000) : opens L = 0 := by
  unfold opens
  rw [List.countP_eq_zero]
  intro x hx hp
  have hf : ∃ i, L.findIdx? isOpn = some i := by
    cases hf : L.findIdx? isOpn with
    | some i => exact ⟨i, rfl⟩
    | none =>
      have := List.findIdx?_eq_none_iff.1 hf x hx
      rw [hp] at this; cases this
  obtain ⟨i, hi⟩ := hf
  obtain ⟨hlt, _⟩ := List.findIdx?_eq_some_iff_getElem.1 hi
  have hy : L[i]? = some L[i] := List.getElem?_eq_getElem hlt
  unfold sendOk plan at h
  rw [hi] at h
  simp only [h1, h2, Bool.and_self, if_true, hy] at h
  split at h
  · cases h
  · cases h
theorem zero_sum {α : Type} : ∀ (L : List α), (L.map (fun _ => (0 : Int))).sum = 0
  | [] => rfl
  | y :: L => by simp [zero_sum L]
theorem pend_zero {m : Int} {L : List TItem} {K : List Int} (h : opens L = 0) : pend m L K = 0 := by
  unfold opens at h
  rw [List.countP_eq_zero] at h
  unfold pend
  have : L.map (owes m K) = L.map (fun _ => 0) := List.map_congr_left fun x hx => by
    have := h x hx
    simp only [owes]
    rw [show isOpn x = false by simpa using this]; rfl
  rw [this]
  exact zero_sum L
/-- The keys of a bank. -/
theorem sent_keys {m : Int} {L : List TItem} {K C : List Int} {b : Int} (h1 : runOk m L = true) (hb : m * 1000 + 999 ≤ b) (hK : ∀ k ∈ K, k ≤ b) : ∀ k ∈ (sent m L K C).2.1, k ≤ b :=
  (sent_ind (fun L' K' C' => runOk m L' = true ∧ ∀ k ∈ K', k ≤ b) (fun L' K' C' h ho => ⟨sendL_ok h.1, fun k hk => by
    cases hp : plan m L' K' C' with
    | none => rw [(send_none hp).2.2.1] at hk; exact h.2 k hk
    | some z =>
      obtain ⟨i, x, b'⟩ := z
      obtain ⟨p1, _, p3, _⟩ := plan_some hp
      cases b' with
      | false => rw [(send_old hp).2.2.1] at hk; exact h.2 k hk
      | true =>
        rw [(send_new hp).2.2.1] at hk
        rcases List.mem_append.1 hk with hk | hk
        · exact h.2 k hk
        · have := (itemOk_iff.1 ((runOk_and p1).1 i x p3).1).1
          simp at hk; unfold keyOfI at hk; omega⟩) _ L K C rfl ⟨h1, hK⟩).2

/-! FnNewRuns -/
def memL (ps : List Int) (k : Nat) : List Int := (List.range k).map fun (i : Nat) => 1 + 100 * (i : Int) + ps.getD (1 + i) 0 % 100
def cenL (ps : List Int) (k : Nat) : List Int := (List.range k).map fun (i : Nat) => ps.getD (1 + i) 0
theorem memL_len (ps : List Int) (k : Nat) : (memL ps k).length = k := by simp [memL]
theorem cenL_len (ps : List Int) (k : Nat) : (cenL ps k).length = k := by simp [cenL]
theorem memL_succ {ps : List Int} {k : Nat} {x : Int} (h : ps[k + 1]? = some x) : memL ps (k + 1) = memL ps k ++ [1 + 100 * (k : Int) + x % 100] := by
  have : ps[1 + k]? = some x := by rw [Nat.add_comm, h]
  simp [memL, List.range_succ, this]
theorem cenL_succ {ps : List Int} {k : Nat} {x : Int} (h : ps[k + 1]? = some x) : cenL ps (k + 1) = cenL ps k ++ [x] := by
  have : ps[1 + k]? = some x := by rw [Nat.add_comm, h]
  simp [cenL, List.range_succ, this]
theorem newItems {ps : List Int} (hp : Places ps) {n : Nat} (hn : n ≤ 7) {k : Nat} (hk : k < n) : ∃ x, 0 ≤ x ∧ x ≤ 9999 ∧ (zipI (memL ps n) (cenL ps n))[k]? = some (1 + 100 * (k : Int) + x % 100, x, 0) := by
  obtain ⟨x, hx, h0, h1⟩ := hp.get (k := 1 + k) (by omega)
  refine ⟨x, h0, h1, ?_⟩
  simp [zipI, memL, cenL, List.getElem?_map, List.getElem?_range hk, hx]
theorem newOk_yes {ps : List Int} (hp : Places ps) {n : Nat} (hn : n ≤ 7) {m : Int} (hm : 0 ≤ m ∧ m ≤ 99) : newOk m (memL ps n) (cenL ps n) = true := by
  have hl := zipI_len (show (memL ps n).length = (cenL ps n).length by rw [memL_len, cenL_len])
  rw [memL_len] at hl
  rw [newOk, memL_len, cenL_len, decide_eq_true rfl, Bool.true_and, runOk, Bool.and_eq_true, Bool.and_eq_true, inB_iff, decide_eq_true_eq]
  refine ⟨⟨allTo_iff.2 fun k hk => ?_, by omega⟩, by omega⟩
  rw [hl] at hk
  obtain ⟨x, h0, h1, hx⟩ := newItems hp hn hk
  rw [itemAt_eq hx, Bool.and_eq_true, Bool.not_eq_true']
  refine ⟨itemOk_iff.2 ⟨by dsimp only; omega, by dsimp only; omega, by dsimp only; omega⟩, ?_⟩
  rw [← Bool.not_eq_true]
  intro hh
  obtain ⟨y, hy, he⟩ := List.any_eq_true.1 hh
  obtain ⟨j, hj, hjy⟩ := List.mem_iff_getElem.1 hy
  have hj2 : j < k := by simp at hj; omega
  obtain ⟨z, z0, z1, hz⟩ := newItems hp hn (show j < n by omega)
  have : y = (1 + 100 * (j : Int) + z % 100, z, 0) := by
    rw [List.getElem_take] at hjy
    have h2 := List.getElem?_eq_getElem (l := zipI (memL ps n) (cenL ps n)) (i := j) (by omega)
    rw [hjy, hz] at h2
    exact (Option.some.inj h2).symm
  subst this
  simp at he
  omega
theorem zip_open {ms cs : List Int} : ∀ x ∈ zipI ms cs, isOpn x = true := by
  intro x hx
  obtain ⟨k, hk, rfl⟩ := List.mem_iff_getElem.1 hx
  simp [zipI, isOpn]
theorem pend_all {m : Int} : ∀ {ms cs : List Int}, ms.length = cs.length → pend m (zipI ms cs) [] = cs.sum
  | [], [], _ => rfl
  | a :: ms, c :: cs, h => by
    have ih := pend_all (m := m) (ms := ms) (cs := cs) (by simpa using h)
    unfold pend at ih ⊢
    simp only [zipI, List.zipWith_cons_cons, List.map_cons, List.sum_cons] at ih ⊢
    rw [ih]
    simp [owes, isOpn, hasK]
  | [], c :: cs, h => by simp at h
  | a :: ms, [], h => by simp at h
/-- A new run that is finished with an empty bank. -/
theorem newRuns {ps : List Int} (hp : Places ps) {n : Nat} (hn : n ≤ 7) {m : Int} (hm : 0 ≤ m ∧ m ≤ 99) :
    (finC m (zipI (memL ps n) (cenL ps n)) [] []).sum = (cenL ps n).sum ∧ accOk (finK m (zipI (memL ps n) (cenL ps n)) [] []) (finC m (zipI (memL ps n) (cenL ps n)) [] []) 3599999 1 = true ∧
      bankOk (finK m (zipI (memL ps n) (cenL ps n)) [] []) (finC m (zipI (memL ps n) (cenL ps n)) [] []) = true := by
  have hnew := newOk_yes hp hn hm
  simp only [newOk, Bool.and_eq_true] at hnew
  have hr := hnew.2
  obtain ⟨L, hL⟩ : ∃ L, L = zipI (memL ps n) (cenL ps n) := ⟨_, rfl⟩
  have hop : ∀ x ∈ L, isOpn x = true := by rw [hL]; exact zip_open
  have hlen : L.length = n := by rw [hL, zipI_len (by rw [memL_len, cenL_len]), memL_len]
  have hpe : pend m L [] = (cenL ps n).sum := by rw [hL]; exact pend_all (by rw [memL_len, cenL_len])
  rw [← hL] at hr ⊢
  have hb0 : bankOk [] [] = true := by rfl
  have hfo : finOk m L [] [] = true := by rw [finOk, hr, hb0]; rfl
  have hc : confirm m L [] [] = L := by
    unfold confirm
    rw [if_pos (by rw [hr, hb0]; rfl)]
    conv => rhs; rw [← List.map_id L]
    refine List.map_congr_left fun x hx => ?_
    have := hop x hx
    obtain ⟨a, b, c⟩ := x
    simp only [isOpn, beq_iff_eq] at this
    simp [conf, hasK, this]
  obtain ⟨g1, g2, g3⟩ := fin_yes (L2 := (sent m L [] []).1) (K2 := (sent m L [] []).2.1) (C2 := (sent m L [] []).2.2) hfo (by rw [hc])
  rw [g2, g3]
  obtain ⟨s1, s2, _⟩ := sent_all (m := m) (L := L) hr hb0
  have hsz := sent_size (m := m) (L := L) (K := []) (C := [])
  have hon : opens L ≤ n := by unfold opens; rw [← hlen]; exact List.countP_le_length
  have hend := sent_end (m := m) _ L [] [] rfl
  have hno := no_open hend s1 s2 (by simp at hsz; omega)
  have hpaid := sent_paid (m := m) (L := L) (K := []) (C := [])
  rw [pend_zero hno, hpe] at hpaid
  have hk := sent_keys (m := m) (L := L) (K := []) (C := []) (b := 99999) hr (by omega) (by simp)
  have hnk : hasK (sent m L [] []).2.1 3599999 = false := by
    rw [← Bool.not_eq_true]
    intro h
    obtain ⟨x, hx, he⟩ := List.any_eq_true.1 h
    have := hk x hx
    simp at he; omega
  refine ⟨by simpa using hpaid, ?_, s2⟩
  rw [accOk, hnk, s2, bankOk_push s2 hnk (by omega) (by omega)]
  simp at hsz ⊢; omega
end Go.Proofs.Ytccgbilgfnoheaa
