/- Joined of Open, OpenS, OpenG: what is proved stands ahead of each part. -/
import Derived.Test.YtjfmknhnplefnaaGreatZRec
import Derived.Test.YtjfmknhnplefnaaGreatZIntS
import Derived.Deep.Slices
import Derived.Deep.Fields
import Derived.ChangeSame

section
/-
  What came in, opened: slices of records of integers.
-/
namespace Go.Proofs.YtjfmknhnplefnaaGreat
open Go.RowKit Go.ChangeShapes Go.WideShapes Go.Deep

section
variable {H : Type} {enc : TypeId × Value → H} {P : Program} {w : World} {base : Nat} {spare : Nat → Bool} {held : Bool}

def intAt (cs : List Value) (j : Nat) : Int := match cs[j]? with
  | some (.int _ n) => n
  | _ => 0

/-- The cells of a struct of integers. -/
theorem trod_ints {e T : TypeId} {fs : Array Field} {fuel : Nat} {cs : List Value} {x : DataW H × List MemPlace} (he : P.underlying e = some (.struct fs)) (hone : oneCellFields P fs = true) (hC : P.cellsOf e = fs.size)
    (hT : P.underlying T = some (.int .i64)) (hty : (fs.toList.all fun f => f.type == T) = true) (h : DataW.trod enc P w base spare held fuel e cs = some x) :
    cs = (List.range fs.size).map fun j => Value.int .i64 (intAt cs j) := by
  obtain ⟨ys, n, _, _, hlen, hyl, hf⟩ := DataW.trod_struct he h
  rw [hC] at hlen
  apply List.ext_getElem?
  intro j
  by_cases hj : j < fs.size
  · have hfj : fs[j]? = some fs[j] := Array.getElem?_eq_getElem hj
    obtain ⟨ho, hk⟩ := hone_of hone j _ hfj
    have h1 := hf j _ hfj
    rw [ho, hk] at h1
    have hcj : cs[j]? = some (cs[j]'(by omega)) := List.getElem?_eq_getElem (by omega)
    have hd : (cs.drop j).take 1 = [cs[j]'(by omega)] := by
      rw [List.drop_eq_getElem_cons (by omega)]
      rfl
    have hyj : ys[j]? = some (ys[j]'(by omega)) := List.getElem?_eq_getElem (by omega)
    rw [hd, hyj] at h1
    have htype : fs[j].type = T := by
      have := List.all_eq_true.1 hty fs[j] (by simp)
      simpa using this
    rw [htype] at h1
    obtain ⟨m, hm, _⟩ := DataW.trod_int hT h1
    have hm' : cs[j]'(by omega) = .int .i64 m := by simpa using hm
    rw [hcj, List.getElem?_map, List.getElem?_range hj, hm']
    simp [intAt, hcj, hm']
  · rw [List.getElem?_eq_none (by omega), List.getElem?_eq_none (by simp; omega)]

/-- A slice of structs of n integers reads as a list of records. -/
theorem open_recs {τ : Type} {n : Nat} {cells : τ → List Value} (mk : (Nat → Int) → τ) (hmk : ∀ φ, cells (mk φ) = (List.range n).map fun j => Value.int .i64 (φ j)) (hn : 0 < n)
    {t e T : TypeId} {fs : Array Field} {fuel : Nat} {cs : List Value} {x : DataW H × List MemPlace} (ht : P.underlying t = some (.slice e)) (he : P.underlying e = some (.struct fs)) (hsz : fs.size = n) (hone : oneCellFields P fs = true) (hC : P.cellsOf e = n)
    (hT : P.underlying T = some (.int .i64)) (hty : (fs.toList.all fun f => f.type == T) = true) (h : DataW.trod enc P w base spare held fuel t cs = some x) :
    ∃ (A : Option Addr) (c : Nat) (L : List τ), cs = [.slice A L.length c] ∧ RecAt n cells w A L ∧ L.length ≤ 9223372036854775807 := by
  rcases open_slice ht h with ⟨hcs, _⟩ | ⟨a, len, cap, m, fu, D, Pl, hcs, _, hlc, hcm, hmm, _, hel⟩
  · exact ⟨none, 0, [], hcs, .inl rfl, by simp⟩
  · have hml : len ≤ m := by rw [hmm]; split <;> omega
    have hex : ∀ i, i < len → ∃ φ : Nat → Int, ∀ j, j < n → w.cell? (a.add (i * n + j)) = some (.int .i64 (φ j)) := by
      intro i hi
      obtain ⟨cs', hc, htr⟩ := hel i (by omega)
      have hci := trod_ints he hone (by rw [hsz]; exact hC) hT hty htr
      rw [hC] at hc
      obtain ⟨_, _, hat⟩ := World.cells?_some hc
      refine ⟨intAt cs', fun j hj => ?_⟩
      have := hat j hj
      rw [← Go.Deep.add_add] at *
      rw [this]
      conv => lhs; rw [hci]
      rw [List.getElem?_map, List.getElem?_range (by omega)]
      rfl
    obtain ⟨F, hF⟩ : ∃ F : Nat → Nat → Int, ∀ i, i < len → ∀ j, j < n → w.cell? (a.add (i * n + j)) = some (.int .i64 (F i j)) := by
      refine ⟨fun i => if h : i < len then (hex i h).choose else fun _ => 0, fun i hi => ?_⟩
      simp only [hi, dif_pos]
      exact (hex i hi).choose_spec
    refine ⟨some a, cap, (List.range len).map fun i => mk (F i), by simpa using hcs, ?_, by unfold maxLen at hcm; simp; omega⟩
    rcases Nat.eq_zero_or_pos len with h0 | h0
    · subst h0; exact .inl (by simp)
    · obtain ⟨b, off, spot⟩ := a
      have hc0 := hF 0 h0 0 hn
      have hspot : spot = none := by simpa [Addr.add] using World.cell?_spot hc0
      subst hspot
      have hb : b < w.heap.size := by
        have := World.block_lt_of_cell? w _ hc0
        rw [Addr.add_lit] at this
        exact this
      refine .inr ⟨b, off, rfl, hb, fun k y hy j v hv => ?_⟩
      have hk : k < len := by
        have := (List.getElem?_eq_some_iff.1 hy).1
        simpa using this
      rw [List.getElem?_map, List.getElem?_range hk] at hy
      have hy' : mk (F k) = y := by simpa using hy
      subst hy'
      rw [hmk] at hv
      have hj : j < n := by
        have := (List.getElem?_eq_some_iff.1 hv).1
        simpa using this
      rw [List.getElem?_map, List.getElem?_range hj] at hv
      have hv' : Value.int .i64 (F k j) = v := by simpa using hv
      subst hv'
      have := hF k hk j hj
      rw [Addr.add_lit] at this
      rw [Nat.add_assoc]
      exact this
end
end Go.Proofs.YtjfmknhnplefnaaGreat
end

section
/-
  What came in, opened: structs that hold slices.
-/
namespace Go.Proofs.YtjfmknhnplefnaaGreat
open Go.RowKit Go.ChangeShapes Go.WideShapes Go.Deep

section
variable {H : Type} {enc : TypeId × Value → H} {P : Program} {w : World} {base : Nat} {spare : Nat → Bool} {held : Bool}

theorem trod_struct_len {t : TypeId} {fs : Array Field} {fuel N : Nat} {cs : List Value} {x : DataW H × List MemPlace} (ht : P.underlying t = some (.struct fs)) (hN : P.cellsOf t = N) (h : DataW.trod enc P w base spare held fuel t cs = some x) : cs.length = N := by
  obtain ⟨_, _, _, _, hl, _⟩ := DataW.trod_struct ht h
  rw [hl, hN]
/-- One field of a struct. -/
theorem trod_field {t ft : TypeId} {fs : Array Field} {fuel : Nat} {cs : List Value} {x : DataW H × List MemPlace} (ht : P.underlying t = some (.struct fs)) (i o s : Nat) (hf : (fs[i]?).map (fun f => (f.type, f.offset)) = some (ft, o)) (hs : P.cellsOf ft = s)
    (h : DataW.trod enc P w base spare held fuel t cs = some x) : ∃ n y, DataW.trod enc P w base spare held n ft ((cs.drop o).take s) = some y := by
  obtain ⟨xs, n, _, _, _, hl, hall⟩ := DataW.trod_struct ht h
  cases hfi : fs[i]? with
  | none => rw [hfi] at hf; simp at hf
  | some f =>
    rw [hfi] at hf
    simp at hf
    have h1 := hall i f hfi
    have hi : i < xs.length := by rw [hl]; exact (Array.getElem?_eq_some_iff.1 hfi).1
    rw [List.getElem?_eq_getElem hi, hf.1, hf.2, hs] at h1
    exact ⟨n, _, h1⟩
/-- A slice of integers. -/
theorem open_intsL {t e : TypeId} {fuel : Nat} {cs : List Value} {x : DataW H × List MemPlace} (ht : P.underlying t = some (.slice e)) (he : P.underlying e = some (.int .i64)) (hc : P.cellsOf e = 1)
    (h : DataW.trod enc P w base (fun _ => true) held fuel t cs = some x) : ∃ (A : Option Addr) (c : Nat) (zs : List Int), cs = [.slice A zs.length c] ∧ IntsAt w A zs ∧ zs.length ≤ 9223372036854775807 := by
  rcases open_ints ht he hc h with ⟨hcs, _⟩ | ⟨x, l, c, zs, hcs, _, hl, hm, hz, _, hcell, hwz⟩
  · exact ⟨none, 0, [], hcs, .inl rfl, by simp⟩
  · obtain ⟨ys, rfl, h1, h2⟩ := ints_opened hl hm (by simpa using hz) hcell
    exact ⟨_, _, ys, hcs, h1, h2⟩
end
end Go.Proofs.YtjfmknhnplefnaaGreat
end

section
/-
  What came in, opened: slices of structs of any kind.
-/
namespace Go.Proofs.YtjfmknhnplefnaaGreat
open Go.RowKit Go.ChangeShapes Go.WideShapes Go.Deep

theorem list_of {τ : Type} {p : Nat → τ → Prop} : ∀ n : Nat, (∀ i, i < n → ∃ y, p i y) → ∃ L : List τ, L.length = n ∧ ∀ i y, L[i]? = some y → p i y
  | 0, _ => ⟨[], rfl, fun i y h => by simp at h⟩
  | n + 1, h => by
    obtain ⟨L, hl, hp⟩ := list_of n fun i hi => h i (by omega)
    obtain ⟨y, hy⟩ := h n (by omega)
    refine ⟨L ++ [y], by simp [hl], fun i z hz => ?_⟩
    by_cases hi : i < n
    · rw [List.getElem?_append_left (by omega)] at hz
      exact hp i z hz
    · have hlt := (List.getElem?_eq_some_iff.1 hz).1
      simp at hlt
      obtain rfl : i = n := by omega
      rw [List.getElem?_append_right (by omega), hl] at hz
      simp at hz
      subst hz
      exact hy

section
variable {H : Type} {enc : TypeId × Value → H} {P : Program} {w : World} {base : Nat} {held : Bool}

/-- A slice of structs whose elements can be opened. -/
theorem open_recsG {τ : Type} {n : Nat} {cells : τ → List Value} {Good : τ → Prop} (hn : 0 < n) {t e : TypeId} {fuel : Nat} {cs : List Value} {x : DataW H × List MemPlace} (ht : P.underlying t = some (.slice e)) (hC : P.cellsOf e = n)
    (hE : ∀ (fuel : Nat) (cs : List Value) (x : DataW H × List MemPlace), DataW.trod enc P w base (fun _ => true) held fuel e cs = some x → ∃ y, cs = cells y ∧ Good y) (hlen : ∀ y, (cells y).length = n)
    (h : DataW.trod enc P w base (fun _ => true) held fuel t cs = some x) :
    ∃ (A : Option Addr) (c : Nat) (L : List τ), cs = [.slice A L.length c] ∧ RecAt n cells w A L ∧ L.length ≤ 9223372036854775807 ∧ ∀ y ∈ L, Good y := by
  rcases open_slice ht h with ⟨hcs, _⟩ | ⟨a, len, cap, m, fu, D, Pl, hcs, _, hlc, hcm, hmm, _, hel⟩
  · exact ⟨none, 0, [], hcs, .inl rfl, by simp, fun y hy => (List.not_mem_nil hy).elim⟩
  · have hml : len ≤ m := by rw [hmm]; split <;> omega
    obtain ⟨L, hl, hL⟩ := list_of (τ := τ) (p := fun i y => (∀ j v, (cells y)[j]? = some v → w.cell? (a.add (i * n + j)) = some v) ∧ Good y) len fun i hi => by
      obtain ⟨cs', hc, htr⟩ := hel i (by omega)
      obtain ⟨y, rfl, hg⟩ := hE _ _ _ htr
      rw [hC] at hc
      obtain ⟨_, _, hat⟩ := World.cells?_some hc
      refine ⟨y, fun j v hv => ?_, hg⟩
      have hj := (List.getElem?_eq_some_iff.1 hv).1
      have := hat j (by rw [hlen] at hj; exact hj)
      rw [← Go.Deep.add_add] at *
      rw [this]
      exact hv
    refine ⟨some a, cap, L, by rw [hl]; exact hcs, ?_, by unfold maxLen at hcm; omega, fun y hy => ?_⟩
    · rcases L with _ | ⟨y0, L0⟩
      · exact .inl rfl
      · obtain ⟨b, off, spot⟩ := a
        have h0 := (hL 0 y0 rfl).1 0 ((cells y0)[0]'(by rw [hlen]; exact hn)) (List.getElem?_eq_getElem _)
        have hspot : spot = none := by simpa [Addr.add] using World.cell?_spot h0
        subst hspot
        have hb : b < w.heap.size := by
          have := World.block_lt_of_cell? w _ h0
          rw [Addr.add_lit] at this
          exact this
        refine .inr ⟨b, off, rfl, hb, fun k y hy j v hv => ?_⟩
        have := (hL k y hy).1 j v hv
        rw [Addr.add_lit] at this
        rw [Nat.add_assoc]
        exact this
    · obtain ⟨i, hi, rfl⟩ := List.mem_iff_getElem.1 hy
      exact (hL i _ (List.getElem?_eq_getElem hi)).2
end
end Go.Proofs.YtjfmknhnplefnaaGreat
end

