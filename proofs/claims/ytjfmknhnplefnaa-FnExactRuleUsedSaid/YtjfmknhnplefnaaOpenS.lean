/-
  What came in, opened: structs that hold slices.
-/
import Derived.Test.YtjfmknhnplefnaaOpen
namespace Go.Proofs.Ytjfmknhnplefnaa
open Go.RowKit Go.ChangeShapes Go.WideShapes Go.Deep

section
variable {H : Type} {enc : TypeId × Value → H} {P : Program} {w : World} {base : Nat} {spare : Nat → Bool} {held : Bool}

theorem trod_struct_len {t : TypeId} {fs : Array Field} {fuel N : Nat} {cs : List Value} {x : DataW H × List MemPlace} (ht : P.underlying t = some (.struct fs)) (hN : P.cellsOf t = N) (h : DataW.trod enc P w base spare held fuel t cs = some x) : cs.length = N := by
  obtain ⟨_, _, _, _, hl, _⟩ := DataW.trod_struct ht h
  rw [hl, hN]
/-- One field of a struct. -/
theorem trod_field {t ft : TypeId} {fs : Array Field} {fuel : Nat} {cs : List Value} {x : DataW H × List MemPlace} (ht : P.underlying t = some (.struct fs)) (i o s : Nat) (hf : (fs[i]?).map (fun f => (f.type, f.offset)) = some (ft, o)) (hs : P.cellsOf ft = s)
    (h : DataW.trod enc P w base spare held fuel t cs = some x) : ∃ n y, DataW.trod enc P w base spare held n ft ((cs.drop o).take s) = some y := by
  obtain ⟨xs, n, _, _, _, hl, hall⟩ := DataW.trod_struct ht h
  cases hfi : fs[i]? with
  | none => rw [hfi] at hf; simp at hf
  | some f =>
    rw [hfi] at hf
    simp at hf
    have h1 := hall i f hfi
    have hi : i < xs.length := by rw [hl]; exact (Array.getElem?_eq_some_iff.1 hfi).1
    rw [List.getElem?_eq_getElem hi, hf.1, hf.2, hs] at h1
    exact ⟨n, _, h1⟩
end
end Go.Proofs.Ytjfmknhnplefnaa
