/-
  A drawn region walked in the text's order, unwanted operations too: no function of the program is named here.
-/
import Derived.Test.YtjfmknhnplefnaaGreatZMem
import Derived.Deep.RegionHeld3
namespace Go.Proofs.YtjfmknhnplefnaaGreat
open Go.RowKit

section
variable {P : Program} {ops : Array Oper} {Q : Exit → Act → World → Prop} {md : Region.Mode} {S : World → Prop}
/-- Number i is not wanted: its slot d is left empty. -/
theorem take_u (i : Nat) (d : Option Tmp) {fuel : Nat} {listed : Array Bool} {a : Act} {w : World} (hd : (ops[i]?).map (fun o => o.dst) = some d)
    (hs : Region.noSelect ops = true) (hf : Region.free md ops listed i = true) (hr : (Region.ready md ops listed).contains i = true)
    (hQ : ∀ c a w, Q (.panic c) (a.put d undef) w → Q (.panic c) a w) (hw : (ops[i]?).map (fun o => Region.wanted o (yielded ops a.tmps)) = some false) (hS : S w)
    (h : wpAnyH P md ops Q S fuel (listed.setIfInBounds i true) (a.put d undef) w) : wpAnyH P md ops Q S (fuel + 1) listed a w := by
  cases ho : ops[i]? with
  | none => rw [ho] at hd; cases hd
  | some o =>
    rw [ho] at hd hw
    have e1 : o.dst = d := Option.some.inj hd
    have e2 : Region.wanted o (yielded ops a.tmps) = false := Option.some.inj hw
    subst e1
    exact wpAnyH_take ho hs hf hr hQ (.inr ⟨e2, rfl⟩) hS h
/-- Number i reads or reckons a value. -/
theorem take_w (i : Nat) (d : Option Tmp) {v : Value} {fuel : Nat} {listed : Array Bool} {a : Act} {w : World} (hd : (ops[i]?).map (fun o => o.dst) = some d)
    (hs : Region.noSelect ops = true) (hf : Region.free md ops listed i = true) (hr : (Region.ready md ops listed).contains i = true)
    (hQ : ∀ c a w, Q (.panic c) (a.put d v) w → Q (.panic c) a w) (hw : (ops[i]?).map (fun o => Region.wanted o (yielded ops a.tmps)) = some true)
    (hy : match ops[i]? with | some o => ∀ w, S w → (execOp a.eval o).run P w = .ok (.value v) w | none => False) (hS : S w)
    (h : wpAnyH P md ops Q S fuel (listed.setIfInBounds i true) (a.put d v) w) : wpAnyH P md ops Q S (fuel + 1) listed a w := by
  cases ho : ops[i]? with
  | none => rw [ho] at hd; cases hd
  | some o =>
    rw [ho] at hd hw hy
    have e1 : o.dst = d := Option.some.inj hd
    have e2 : Region.wanted o (yielded ops a.tmps) = true := Option.some.inj hw
    subst e1
    exact wpAnyH_take ho hs hf hr hQ (.inl ⟨e2, hy⟩) hS h
/-- Number i alone may come up, and is carried out. -/
theorem take_c (i : Nat) {fuel : Nat} {listed : Array Bool} {a : Act} {w : World} {o : Oper} (hr : Region.ready md ops listed = [i]) (ho : ops[i]? = some o) (hg : o.guard = none)
    (h : ∀ K : Act → World → Prop, (∀ a w, S w → wpAnyH P md ops Q S fuel (listed.setIfInBounds i true) a w → K a w) → o.wp P a w K Q) : wpAnyH P md ops Q S (fuel + 1) listed a w :=
  wpAnyH_ready hr (by simp) (AllReadyH.cons ho (fun K hK => step_of (E := K (a.put o.dst undef) w) hg (h K fun a' w' h1 h2 => hK.out a' w' h1 fun _ => h2)) AllReadyH.nil)
end
end Go.Proofs.YtjfmknhnplefnaaGreat
