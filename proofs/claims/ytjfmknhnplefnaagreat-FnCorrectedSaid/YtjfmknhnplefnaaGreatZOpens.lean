/-
  What came in, opened: slices of records of integers.
-/
import Derived.Test.YtjfmknhnplefnaaGreatZRec
import Derived.Test.YtjfmknhnplefnaaGreatZIntS
import Derived.Deep.Slices
import Derived.Deep.Fields
import Derived.ChangeSame
namespace Go.Proofs.YtjfmknhnplefnaaGreat
open Go.RowKit Go.ChangeShapes Go.WideShapes Go.Deep

section
variable {H : Type} {enc : TypeId × Value → H} {P : Program} {w : World} {base : Nat} {spare : Nat → Bool} {held : Bool}

def intAt (cs : List Value) (j : Nat) : Int := match cs[j]? with
  | some (.int _ n) => n
  | _ => 0

/-- The cells of a struct of integers. -/
theorem trod_ints {e T : TypeId} {fs : Array Field} {fuel : Nat} {cs : List Value} {x : DataW H × List MemPlace} (he : P.underlying e = some (.struct fs)) (hone : oneCellFields P fs = true) (hC : P.cellsOf e = fs.size)
    (hT : P.underlying T = some (.int .i64)) (hty : (fs.toList.all fun f => f.type == T) = true) (h : DataW.trod enc P w base spare held fuel e cs = some x) :
    cs = (List.range fs.size).map fun j => Value.int .i64 (intAt cs j) := by
  obtain ⟨ys, n, _, _, hlen, hyl, hf⟩ := DataW.trod_struct he h
  rw [hC] at hlen
  apply List.ext_getElem?
  intro j
  by_cases hj : j < fs.size
  · have hfj : fs[j]? = some fs[j] := Array.getElem?_eq_getElem hj
    obtain ⟨ho, hk⟩ := hone_of hone j _ hfj
    have h1 := hf j _ hfj
    rw [ho, hk] at h1
    have hcj : cs[j]? = some (cs[j]'(by omega)) := List.getElem?_eq_getElem (by omega)
    have hd : (cs.drop j).take 1 = [cs[j]'(by omega)] := by
      rw [List.drop_eq_getElem_cons (by omega)]
      rfl
    have hyj : ys[j]? = some (ys[j]'(by omega)) := List.getElem?_eq_getElem (by omega)
    rw [hd, hyj] at h1
    have htype : fs[j].type = T := by
      have := List.all_eq_true.1 hty fs[j] (by simp)
      simpa using this
    rw [htype] at h1
    obtain ⟨m, hm, _⟩ := DataW.trod_int hT h1
    have hm' : cs[j]'(by omega) = .int .i64 m := by simpa using hm
    rw [hcj, List.getElem?_map, List.getElem?_range hj, hm']
    simp [intAt, hcj, hm']
  · rw [List.getElem?_eq_none (by omega), List.getElem?_eq_none (by simp; omega)]

/-- A slice of structs of n integers reads as a list of records. -/
theorem open_recs {τ : Type} {n : Nat} {cells : τ → List Value} (mk : (Nat → Int) → τ) (hmk : ∀ φ, cells (mk φ) = (List.range n).map fun j => Value.int .i64 (φ j)) (hn : 0 < n)
    {t e T : TypeId} {fs : Array Field} {fuel : Nat} {cs : List Value} {x : DataW H × List MemPlace} (ht : P.underlying t = some (.slice e)) (he : P.underlying e = some (.struct fs)) (hsz : fs.size = n) (hone : oneCellFields P fs = true) (hC : P.cellsOf e = n)
    (hT : P.underlying T = some (.int .i64)) (hty : (fs.toList.all fun f => f.type == T) = true) (h : DataW.trod enc P w base spare held fuel t cs = some x) :
    ∃ (A : Option Addr) (c : Nat) (L : List τ), cs = [.slice A L.length c] ∧ RecAt n cells w A L ∧ L.length ≤ 9223372036854775807 := by
  rcases open_slice ht h with ⟨hcs, _⟩ | ⟨a, len, cap, m, fu, D, Pl, hcs, _, hlc, hcm, hmm, _, hel⟩
  · exact ⟨none, 0, [], hcs, .inl rfl, by simp⟩
  · have hml : len ≤ m := by rw [hmm]; split <;> omega
    have hex : ∀ i, i < len → ∃ φ : Nat → Int, ∀ j, j < n → w.cell? (a.add (i * n + j)) = some (.int .i64 (φ j)) := by
      intro i hi
      obtain ⟨cs', hc, htr⟩ := hel i (by omega)
      have hci := trod_ints he hone (by rw [hsz]; exact hC) hT hty htr
      rw [hC] at hc
      obtain ⟨_, _, hat⟩ := World.cells?_some hc
      refine ⟨intAt cs', fun j hj => ?_⟩
      have := hat j hj
      rw [← Go.Deep.add_add] at *
      rw [this]
      conv => lhs; rw [hci]
      rw [List.getElem?_map, List.getElem?_range (by omega)]
      rfl
    obtain ⟨F, hF⟩ : ∃ F : Nat → Nat → Int, ∀ i, i < len → ∀ j, j < n → w.cell? (a.add (i * n + j)) = some (.int .i64 (F i j)) := by
      refine ⟨fun i => if h : i < len then (hex i h).choose else fun _ => 0, fun i hi => ?_⟩
      simp only [hi, dif_pos]
      exact (hex i hi).choose_spec
    refine ⟨some a, cap, (List.range len).map fun i => mk (F i), by simpa using hcs, ?_, by unfold maxLen at hcm; simp; omega⟩
    rcases Nat.eq_zero_or_pos len with h0 | h0
    · subst h0; exact .inl (by simp)
    · obtain ⟨b, off, spot⟩ := a
      have hc0 := hF 0 h0 0 hn
      have hspot : spot = none := by simpa [Addr.add] using World.cell?_spot hc0
      subst hspot
      have hb : b < w.heap.size := by
        have := World.block_lt_of_cell? w _ hc0
        rw [Addr.add_lit] at this
        exact this
      refine .inr ⟨b, off, rfl, hb, fun k y hy j v hv => ?_⟩
      have hk : k < len := by
        have := (List.getElem?_eq_some_iff.1 hy).1
        simpa using this
      rw [List.getElem?_map, List.getElem?_range hk] at hy
      have hy' : mk (F k) = y := by simpa using hy
      subst hy'
      rw [hmk] at hv
      have hj : j < n := by
        have := (List.getElem?_eq_some_iff.1 hv).1
        simpa using this
      rw [List.getElem?_map, List.getElem?_range hj] at hv
      have hv' : Value.int .i64 (F k j) = v := by simpa using hv
      subst hv'
      have := hF k hk j hj
      rw [Addr.add_lit] at this
      rw [Nat.add_assoc]
      exact this
end
end Go.Proofs.YtjfmknhnplefnaaGreat
