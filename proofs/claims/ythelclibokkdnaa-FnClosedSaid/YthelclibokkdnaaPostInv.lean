/-
  The program's Post: what has come up of its new ledger, an invariant over every order; and the walk.
-/
import Derived.Test.YthelclibokkdnaaPostS
import Derived.Test.YthelclibokkdnaaOrd
namespace Go.Proofs.Ythelclibokkdnaa
open Go.RowKit
set_option linter.unusedVariables false
set_option linter.unnecessarySimpa false

def prow (cl ap : Bool) (x y : Value) : Value := bif ap then y else bif cl then x else .slice none 0 0
def plist (cl ap : Bool) (L M : List TPosting) : List TPosting := bif ap then M else bif cl then L else []
structure PostInv (w0 : World) (h : Nat) (A : Option Addr) (c : Nat) (L : List TPosting) (y : TPosting) (M : List TPosting) (l : Nat → Bool) (t : Nat → Value) (w1 : World) : Prop where
  same : Same w0 w1
  a7 : l 0 = true → t 7 = .pointer (some ⟨h, 0, none⟩)
  a8 : l 1 = true → t 8 = .slice A L.length c
  a10 : l 3 = true → t 10 = .agg (cPosting y).toArray
  a13 : l 6 = true → t 13 = .agg #[t 12]
  d5 : l 5 = true → l 2 = true
  d6 : l 6 = true → l 5 = true
  d8 : l 8 = true → l 6 = true ∧ l 7 = true
  oL : OwnPosting w1 w0.heap.size (prow (l 2) (l 5) (t 9) (t 12)) (plist (l 2) (l 5) L M)
  bP : l 4 = true → l 5 = false → ∃ g, t 11 = .slice (some ⟨g, 0, none⟩) 1 1 ∧ BoxAt w1 g 25 (cPosting y) ∧ (prow (l 2) (l 5) (t 9) (t 12)).ownBlock ≠ some g
  bk : l 7 = true → ∃ g, t 6 = .pointer (some ⟨g, 0, none⟩) ∧ w0.heap.size ≤ g ∧ BoxAt w1 g 38 (bif l 8 then [t 12] else [.slice none 0 0]) ∧ (prow (l 2) (l 5) (t 9) (t 12)).ownBlock ≠ some g
section
variable {w0 w1 w2 : World} {h : Nat} {A : Option Addr} {c : Nat} {L : List TPosting} {y : TPosting} {M : List TPosting} {l : Nat → Bool} {t : Nat → Value}
theorem PostInv.start (hs : Same w0 w1) : PostInv w0 h A c L y M (fun _ => false) t w1 := by
  constructor <;> first | exact hs | exact OwnR.nil _ _ _ _ _ | exact fun h => by cases h
theorem PostInv.world (i : PostInv w0 h A c L y M l t w1) (hs : Same w1 w2) : PostInv w0 h A c L y M l t w2 := by
  refine ⟨i.same.trans hs, i.a7, i.a8, i.a10, i.a13, i.d5, i.d6, i.d8, i.oL.same hs, fun a b => ?_, fun a => ?_⟩
  · obtain ⟨g, h1, h2, h3⟩ := i.bP a b
    exact ⟨g, h1, h2.same hs, h3⟩
  · obtain ⟨g, h1, h2, h3, h4⟩ := i.bk a
    exact ⟨g, h1, h2, h3.same hs, h4⟩
theorem PostInv.s0 (i : PostInv w0 h A c L y M l t w1) (h0 : l 0 = false) : PostInv w0 h A c L y M (upd l 0) (updT t 7 (.pointer (some ⟨h, 0, none⟩))) w1 := { i with a7 := fun _ => rfl }
theorem PostInv.s1 (i : PostInv w0 h A c L y M l t w1) (h0 : l 1 = false) : PostInv w0 h A c L y M (upd l 1) (updT t 8 (.slice A L.length c)) w1 := { i with a8 := fun _ => rfl }
theorem PostInv.s3 (i : PostInv w0 h A c L y M l t w1) (h0 : l 3 = false) : PostInv w0 h A c L y M (upd l 3) (updT t 10 (.agg (cPosting y).toArray)) w1 := { i with a10 := fun _ => rfl }
theorem PostInv.s6 (i : PostInv w0 h A c L y M l t w1) (h0 : l 6 = false) (h5 : l 5 = true) : PostInv w0 h A c L y M (upd l 6) (updT t 13 (.agg #[t 12])) w1 := { i with a13 := fun _ => rfl, d6 := fun _ => h5, d8 := fun h => ⟨rfl, (i.d8 h).2⟩ }
/-- The copy. -/
theorem PostInv.s2 (i : PostInv w0 h A c L y M l t w1) (h0 : l 2 = false) {v : Value} (ho : OwnPosting w2 w1.heap.size v L) (hs : Same w1 w2) : PostInv w0 h A c L y M (upd l 2) (updT t 9 v) w2 := by
  have h5 : l 5 = false := by cases h5 : l 5; rfl; rw [i.d5 h5] at h0; cases h0
  have i' := i.world hs
  have e1 : prow (upd l 2 2) (upd l 2 5) (updT t 9 v 9) (updT t 9 v 12) = v := by show prow true (l 5) v (t 12) = v; rw [h5]; rfl
  have e2 : plist (upd l 2 2) (upd l 2 5) L M = L := by show plist true (l 5) L M = L; rw [h5]; rfl
  have hn : ∀ g, v.ownBlock = some g → w1.heap.size ≤ g := fun g hg => (owns_new ho g hg).1
  refine { i' with d5 := fun _ => rfl, oL := ?_, bP := ?_, bk := ?_ }
  · rw [e1, e2]; exact ho.rebase i.same.size
  · intro a b
    rw [e1]
    obtain ⟨g, p1, p2, p3⟩ := i.bP a b
    exact ⟨g, p1, p2.same hs, fun hg => by have := p2.lt; have := hn g hg; omega⟩
  · intro a
    rw [e1]
    have h8 : l 8 = false := by cases h8 : l 8; rfl; rw [i.d5 (i.d6 (i.d8 h8).1)] at h0; cases h0
    obtain ⟨g, p1, p2, p3, p4⟩ := i.bk a
    refine ⟨g, p1, p2, ?_, fun hg => by have := p3.lt; have := hn g hg; omega⟩
    show BoxAt w2 g _ (bif l 8 then _ else _)
    have := p3.same hs
    rw [h8] at this ⊢
    exact this
theorem PostInv.s4 (i : PostInv w0 h A c L y M l t w1) (h0 : l 4 = false) : PostInv w0 h A c L y M (upd l 4) (updT t 11 (.slice (some ⟨w1.heap.size, 0, none⟩) 1 1)) (w1.alloc (.cells (cPosting y).toArray 25)) := by
  have i' := i.world ((Same.refl w1).alloc (.cells (cPosting y).toArray 25))
  refine { i' with bP := fun _ b => ⟨_, rfl, BoxAt.new w1 _ _, fun e => ?_⟩ }
  have := (owns_new i.oL _ e).2; omega
theorem PostInv.s7 (i : PostInv w0 h A c L y M l t w1) (h0 : l 7 = false) : PostInv w0 h A c L y M (upd l 7) (updT t 6 (.pointer (some ⟨w1.heap.size, 0, none⟩))) (w1.alloc (.cells #[.slice none 0 0] 38)) := by
  have i' := i.world ((Same.refl w1).alloc (.cells #[.slice none 0 0] 38))
  have h8 : l 8 = false := by cases h8 : l 8; rfl; rw [(i.d8 h8).2] at h0; cases h0
  refine { i' with d8 := fun h => ⟨(i.d8 h).1, rfl⟩, bk := fun _ => ⟨_, rfl, i.same.size, ?_, fun e => ?_⟩ }
  · show BoxAt _ _ _ (bif l 8 then _ else _)
    rw [h8]
    exact BoxAt.new w1 _ [_]
  · have := (owns_new i.oL _ e).2; omega
theorem PostInv.row2 (i : PostInv w0 h A c L y M l t w1) (h2 : l 2 = true) (h5 : l 5 = false) : OwnPosting w1 w0.heap.size (t 9) L := by have := i.oL; rw [h2, h5] at this; exact this
theorem PostInv.row5 (i : PostInv w0 h A c L y M l t w1) (h5 : l 5 = true) : OwnPosting w1 w0.heap.size (t 12) M := by have := i.oL; rw [h5] at this; exact this
theorem PostInv.s5 (i : PostInv w0 h A c L y M l t w1) (h0 : l 5 = false) (h2 : l 2 = true) {v : Value} (ho : OwnPosting w2 w0.heap.size v M) (hg : w1.grownBy w2 (t 9).ownBlock) (hf : From w1 (t 9) v) : PostInv w0 h A c L y M (upd l 5) (updT t 12 v) w2 := by
  have e0 : prow (l 2) (l 5) (t 9) (t 12) = t 9 := by rw [h2, h0]; rfl
  have hr := i.row2 h2 h0
  have h6 : l 6 = false := by cases h : l 6; rfl; rw [i.d6 h] at h0; cases h0
  have h8 : l 8 = false := by cases h : l 8; rfl; rw [(i.d8 h).1] at h6; cases h6
  have hne : ∀ {g}, g < w1.heap.size → (t 9).ownBlock ≠ some g → v.ownBlock ≠ some g := fun hlt hn e => by
    rcases hf _ e with h | h
    · exact hn h
    · omega
  refine { i with same := grown_same i.same hg (fun g h => (owns_new hr g h).1), a13 := fun h => (by rw [show upd l 5 6 = l 6 from rfl, h6] at h; cases h), d5 := fun _ => h2, d6 := fun _ => rfl, oL := ho, bP := fun _ h => (by cases h), bk := ?_ }
  intro a
  obtain ⟨g, p1, p2, p3, p4⟩ := i.bk a
  rw [e0] at p4
  rw [h8] at p3
  refine ⟨g, p1, p2, ?_, hne p3.lt p4⟩
  show BoxAt w2 g _ (bif l 8 then _ else _)
  rw [h8]
  exact grown_box hg p3 p4
theorem ownp_set {a : World} {base g : Nat} {v u : Value} {M : List TPosting} (h : OwnPosting a base v M) (hn : v.ownBlock ≠ some g) : OwnPosting (a.setCell ⟨g, 0, none⟩ u) base v M := by
  have hgb : a.grownBy (a.setCell ⟨g, 0, none⟩ u) (Value.slice (some ⟨g, 0, none⟩) 0 0).ownBlock := ⟨rfl, rfl, rfl, by simp, fun k _ hne => heap_setCell_other _ _ _ _ (fun e => hne (by rw [e]; rfl))⟩
  exact grown_owns hgb h (fun g h1 h2 => hn (by rw [h2, ← h1]; rfl))
theorem PostInv.s8 (i : PostInv w0 h A c L y M l t w1) (h0 : l 8 = false) (h6 : l 6 = true) (h7 : l 7 = true) {g : Nat} (hg : t 6 = .pointer (some ⟨g, 0, none⟩)) : PostInv w0 h A c L y M (upd l 8) t (w1.setCell ⟨g, 0, none⟩ (t 12)) := by
  obtain ⟨g', p1, p2, p3, p4⟩ := i.bk h7
  have e : g' = g := by rw [p1] at hg; injection hg with hg; injection hg with hg; injection hg
  subst e
  rw [h0] at p3
  have h5 := i.d6 h6
  exact { i with same := i.same.setCell p2 _, d8 := fun _ => ⟨h6, h7⟩, oL := ownp_set i.oL p4, bP := fun _ h => (by rw [show upd l 8 5 = l 5 from rfl, h5] at h; cases h), bk := fun _ => ⟨g', p1, p2, p3.set 0 _, p4⟩ }
theorem PostInv.fin (i : PostInv w0 h A c L y M l t w1) (hl : ∀ k, k < 9 → l k = true) : ∃ (g : Nat) (A4 : Option Addr) (c4 : Nat), t 6 = .pointer (some ⟨g, 0, none⟩) ∧ BoxAt w1 g 38 [.slice A4 M.length c4] ∧ OwnPosting w1 w0.heap.size (.slice A4 M.length c4) M ∧ w0.heap.size ≤ g ∧ Same w0 w1 := by
  obtain ⟨g, p1, p2, p3, p4⟩ := i.bk (hl 7 (by omega))
  have oL := i.row5 (hl 5 (by omega))
  rw [hl 8 (by omega)] at p3
  replace p3 : BoxAt w1 g 38 [t 12] := p3
  obtain ⟨A4, c4, e4⟩ := oL.form
  rw [e4] at oL p3
  exact ⟨g, A4, c4, p1, p3, oL, p2, i.same⟩
end
end Go.Proofs.Ythelclibokkdnaa
