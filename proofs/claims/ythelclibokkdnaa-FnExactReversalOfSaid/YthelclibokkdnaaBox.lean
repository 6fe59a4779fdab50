/-
  A new block of a few cells: no function of the program is named here.
-/
import Derived.Test.YthelclibokkdnaaRec
namespace Go.Proofs.Ythelclibokkdnaa
open Go.RowKit

def BoxAt (w : World) (g : Nat) (vs : List Value) : Prop := g < w.heap.size ∧ ∀ j v, vs[j]? = some v → w.cell? ⟨g, j, none⟩ = some v
theorem BoxAt.new {w : World} {cs : Array Value} {t : TypeId} (vs : List Value) (h : cs = vs.toArray) : BoxAt (w.alloc (.cells cs t)) w.heap.size vs := ⟨by simp, cells_new h⟩
theorem BoxAt.same {a b : World} {g : Nat} {vs : List Value} (h : BoxAt a g vs) (hs : Same a b) : BoxAt b g vs := ⟨Nat.lt_of_lt_of_le h.1 hs.size, fun j v hv => by rw [hs.cell h.1]; exact h.2 j v hv⟩
theorem BoxAt.drew {a b : World} {g : Nat} {vs : List Value} (h : BoxAt a g vs) (hs : Drew a b) : BoxAt b g vs := h.same hs.same
theorem BoxAt.alloc {a : World} {g : Nat} {vs : List Value} (h : BoxAt a g vs) (o : Obj) : BoxAt (a.alloc o) g vs := h.same ((Same.refl a).alloc o)
theorem BoxAt.upd {a b : World} {g lo hi : Nat} {vs : List Value} (h : BoxAt a g vs) (hu : Upd lo hi a b) (hz : g < lo ∨ hi ≤ g) : BoxAt b g vs := ⟨Nat.lt_of_lt_of_le h.1 hu.size, fun j v hv => by rw [hu.cell h.1 hz]; exact h.2 j v hv⟩
end Go.Proofs.Ythelclibokkdnaa
