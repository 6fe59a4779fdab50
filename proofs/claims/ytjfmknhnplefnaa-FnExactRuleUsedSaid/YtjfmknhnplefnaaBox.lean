/-
  A new block of a few cells: no function of the program is named here.
-/
import Derived.Test.YtjfmknhnplefnaaRec
namespace Go.Proofs.Ytjfmknhnplefnaa
open Go.RowKit

def BoxAt (w : World) (g : Nat) (t : TypeId) (vs : List Value) : Prop := w.heap[g]? = some (.cells vs.toArray t (0, 0))
theorem BoxAt.new (w : World) (t : TypeId) (vs : List Value) : BoxAt (w.alloc (.cells vs.toArray t)) w.heap.size t vs := heap_alloc_new w _
section
variable {a b : World} {g : Nat} {t : TypeId} {vs : List Value}
theorem BoxAt.lt (h : BoxAt a g t vs) : g < a.heap.size := (Array.getElem?_eq_some_iff.1 h).1
theorem BoxAt.cell (h : BoxAt a g t vs) (j : Nat) {v : Value} (hv : vs[j]? = some v) : a.cell? ⟨g, j, none⟩ = some v := by
  rw [cell_of_row a g _ _ _ (0, 0) h]; simpa using hv
theorem BoxAt.frozen (h : BoxAt a g t vs) (j : Nat) : a.frozen? ⟨g, j, none⟩ = false := frozen_of_row a g j _ _ h
theorem BoxAt.same (h : BoxAt a g t vs) (hs : Same a b) : BoxAt b g t vs := (hs.block g h.lt).trans h
theorem BoxAt.drew (h : BoxAt a g t vs) (hs : Drew a b) : BoxAt b g t vs := h.same hs.same
theorem BoxAt.alloc (h : BoxAt a g t vs) (o : Obj) : BoxAt (a.alloc o) g t vs := h.same ((Same.refl a).alloc o)
theorem BoxAt.upd {lo hi : Nat} (h : BoxAt a g t vs) (hu : Upd lo hi a b) (hz : g < lo ∨ hi ≤ g) : BoxAt b g t vs := (hu.block g h.lt hz).trans h
/-- A store into it. -/
theorem BoxAt.set (h : BoxAt a g t vs) (j : Nat) (u : Value) : BoxAt (a.setCell ⟨g, j, none⟩ u) g t (vs.set j u) := by
  have hh := heap_setCell_same a g j _ _ u h
  show _ = _
  rw [hh]; simp
/-- A store into another block. -/
theorem BoxAt.other (h : BoxAt a g t vs) {k j : Nat} (u : Value) (hk : g ≠ k) : BoxAt (a.setCell ⟨k, j, none⟩ u) g t vs := (heap_setCell_other a _ _ _ (by simpa using hk)).trans h
theorem upd_setCell (a : World) (g j : Nat) (u : Value) : Upd g (g + 1) a (a.setCell ⟨g, j, none⟩ u) := ⟨rfl, rfl, rfl, by simp, fun k _ ho => heap_setCell_other a _ _ _ (by simp; omega)⟩
end
end Go.Proofs.Ytjfmknhnplefnaa
