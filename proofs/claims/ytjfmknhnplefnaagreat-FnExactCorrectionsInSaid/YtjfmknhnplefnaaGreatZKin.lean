/-
  Cells that stay of their kind: what marks leave as it was. No function of the program is named here.
-/
import Derived.Test.YtjfmknhnplefnaaGreatZRec
namespace Go.Proofs.YtjfmknhnplefnaaGreat
open Go.RowKit

def IntC (w : World) (p : Addr) : Prop := (∃ x : Int, w.cell? p = some (.int .i64 x)) ∧ w.frozen? p = false
def BoolC (w : World) (p : Addr) : Prop := (∃ x : Bool, w.cell? p = some (.bool x)) ∧ w.frozen? p = false
structure Kin (a b : World) : Prop where
  int : ∀ p, IntC a p → IntC b p
  boo : ∀ p, BoolC a p → BoolC b p
  sl : ∀ p A n c, a.cell? p = some (.slice A n c) → b.cell? p = some (.slice A n c)
theorem Kin.refl (a : World) : Kin a a := ⟨fun _ h => h, fun _ h => h, fun _ _ _ _ h => h⟩
theorem Kin.trans {a b c : World} (h : Kin a b) (k : Kin b c) : Kin a c := ⟨fun p x => k.int p (h.int p x), fun p x => k.boo p (h.boo p x), fun p A n d x => k.sl p A n d (h.sl p A n d x)⟩
theorem Kin.same {a b : World} (h : Same a b) : Kin a b := by
  refine ⟨fun p x => ?_, fun p x => ?_, fun p A n c x => ?_⟩
  · obtain ⟨⟨v, hv⟩, hf⟩ := x
    have hb := World.block_lt_of_cell? a _ hv
    exact ⟨⟨v, (h.cell hb).trans hv⟩, (h.frozen hb).trans hf⟩
  · obtain ⟨⟨v, hv⟩, hf⟩ := x
    have hb := World.block_lt_of_cell? a _ hv
    exact ⟨⟨v, (h.cell hb).trans hv⟩, (h.frozen hb).trans hf⟩
  · exact (h.cell (World.block_lt_of_cell? a _ x)).trans x
/-- An integer is written over. -/
theorem Kin.putI {a b : World} {p : Addr} {y : Int} (h : Kin a b) (hp : IntC a p) : Kin a (b.setCell p (.int .i64 y)) := by
  obtain ⟨⟨x, hx⟩, hf⟩ := h.int p hp
  refine ⟨fun q hq => ?_, fun q hq => ?_, fun q A n c hq => ?_⟩
  · obtain ⟨⟨v, hv⟩, hf'⟩ := h.int q hq
    refine ⟨?_, by rw [World.frozen?_setCell]; exact hf'⟩
    by_cases e : p = q
    · subst e; exact ⟨y, World.cell?_setCell_same _ _ _ hv⟩
    · exact ⟨v, (World.cell?_setCell_other _ _ _ _ e).trans hv⟩
  · obtain ⟨⟨v, hv⟩, hf'⟩ := h.boo q hq
    have e : p ≠ q := fun e => by subst e; rw [hx] at hv; simp at hv
    exact ⟨⟨v, (World.cell?_setCell_other _ _ _ _ e).trans hv⟩, by rw [World.frozen?_setCell]; exact hf'⟩
  · have hv := h.sl q A n c hq
    have e : p ≠ q := fun e => by subst e; rw [hx] at hv; simp at hv
    exact (World.cell?_setCell_other _ _ _ _ e).trans hv
/-- A truth value is written over. -/
theorem Kin.putB {a b : World} {p : Addr} {y : Bool} (h : Kin a b) (hp : BoolC a p) : Kin a (b.setCell p (.bool y)) := by
  obtain ⟨⟨x, hx⟩, hf⟩ := h.boo p hp
  refine ⟨fun q hq => ?_, fun q hq => ?_, fun q A n c hq => ?_⟩
  · obtain ⟨⟨v, hv⟩, hf'⟩ := h.int q hq
    have e : p ≠ q := fun e => by subst e; rw [hx] at hv; simp at hv
    exact ⟨⟨v, (World.cell?_setCell_other _ _ _ _ e).trans hv⟩, by rw [World.frozen?_setCell]; exact hf'⟩
  · obtain ⟨⟨v, hv⟩, hf'⟩ := h.boo q hq
    refine ⟨?_, by rw [World.frozen?_setCell]; exact hf'⟩
    by_cases e : p = q
    · subst e; exact ⟨y, World.cell?_setCell_same _ _ _ hv⟩
    · exact ⟨v, (World.cell?_setCell_other _ _ _ _ e).trans hv⟩
  · have hv := h.sl q A n c hq
    have e : p ≠ q := fun e => by subst e; rw [hx] at hv; simp at hv
    exact (World.cell?_setCell_other _ _ _ _ e).trans hv
theorem Upd.put {lo hi : Nat} {a b : World} {g j : Nat} {v : Value} (h : Upd lo hi a b) (h1 : lo ≤ g) (h2 : g < hi) : Upd lo hi a (b.setCell ⟨g, j, none⟩ v) :=
  h.trans ((upd_setCell b g j v).mono h1 h2)

/-- A row of n elements of s cells, each an integer (the last a truth value, if bo). -/
def FlatK (w : World) (s : Nat) (A : Option Addr) (n lo hi : Nat) : Prop := ∀ k, k < n → ∃ g, A = some ⟨g, 0, none⟩ ∧ lo ≤ g ∧ g < hi ∧ ∀ j, j < s → IntC w ⟨g, k * s + j, none⟩
theorem FlatK.kin {a b : World} {s n lo hi : Nat} {A : Option Addr} (h : FlatK a s A n lo hi) (hk : Kin a b) : FlatK b s A n lo hi := fun k hk' => by
  obtain ⟨g, h1, h2, h3, h4⟩ := h k hk'
  exact ⟨g, h1, h2, h3, fun j hj => hk.int _ (h4 j hj)⟩
theorem FlatK.of {T : Type} {e : TypeId} {s : Nat} {cells : T → List Value} {w : World} {base c : Nat} {A : Option Addr} {L : List T} (hl : ∀ x, (cells x).length = s)
    (hc : ∀ x j, j < s → ∃ y : Int, (cells x)[j]? = some (.int .i64 y)) (h : OwnR e s cells w base (.slice A L.length c) L) : FlatK w s A L.length base w.heap.size := fun k hk => by
  obtain ⟨g, h1, h2, h3, h4, h5⟩ := OwnR.at_ hl h (List.getElem?_eq_getElem hk)
  refine ⟨g, h1, h2, h3, fun j hj => ?_⟩
  obtain ⟨y, hy⟩ := hc L[k] j hj
  exact ⟨⟨y, h4 j _ hy⟩, h5 _⟩
end Go.Proofs.YtjfmknhnplefnaaGreat
