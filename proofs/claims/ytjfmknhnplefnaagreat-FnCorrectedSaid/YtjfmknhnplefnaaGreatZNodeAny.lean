/-
  The value of a valid node, either side.
-/
import Derived.Test.YtjfmknhnplefnaaGreatZNodeValI
namespace Go.Proofs.YtjfmknhnplefnaaGreat
open Go.RowKit
set_option linter.unusedVariables false

theorem sValue_any (x : TNode) (V vars : List TFrac) (A B : Option Addr) (c e : Nat) (w : World) (hn : nodeOkT x V.length = true) (hv : vars.length = 8) (hV : fracsOk V = true) (hA : AtFrac w A V) (hB : AtFrac w B vars) :
    Calls Tryz.prog 170 #[.agg #[.int .i64 x.1, .int .i64 x.2.1, .int .i64 x.2.2.1, .int .i64 x.2.2.2.1, .int .i64 x.2.2.2.2.1, .int .i64 x.2.2.2.2.2], .slice A V.length c, .slice B vars.length e] w fun en w' => en = .returned (.tuple #[.agg #[.int .i64 (nodeVal x V vars).1, .int .i64 (nodeVal x V vars).2.1], .bool (nodeVal x V vars).2.2]) ∧ Same w w' := by
  have hr := node_range hn
  clear hn
  obtain ⟨k, a, b, l, n, d⟩ := x
  dsimp only at hr ⊢
  rcases hr with ⟨rfl, _⟩ | ⟨rfl, h2, h3⟩ | ⟨h1, h2, h3, h4, h5⟩
  · have e1 : nodeVal (1, a, b, l, n, d) V vars = (n, d, true) := by simp [nodeVal]
    rw [e1]
    exact sNode_1 V vars A B c e a b l n d w
  · obtain ⟨i, rfl⟩ : ∃ i : Nat, a = i := ⟨a.toNat, by omega⟩
    have e1 : nodeVal (2, (i : Int), b, l, n, d) V vars = yesF (fr vars (i : Int)) := by simp [nodeVal]
    rw [e1]
    exact sNode_2 V vars A B c e i b l n d w (by omega) hB
  · obtain ⟨i, rfl⟩ : ∃ i : Nat, a = i := ⟨a.toNat, by omega⟩
    obtain ⟨j, rfl⟩ : ∃ j : Nat, b = j := ⟨b.toNat, by omega⟩
    have hi : i < V.length := by omega
    have hj : j < V.length := by omega
    by_cases k3 : k = 3
    · subst k3
      have e1 : nodeVal (3, (i : Int), (j : Int), l, n, d) V vars = fracAdd (fr V (i : Int)) (fr V (j : Int)) := by simp [nodeVal]
      rw [e1]
      exact sNode_3 V vars A B c e i j l n d w hi hj hA
    by_cases k4 : k = 4
    · subst k4
      have e1 : nodeVal (4, (i : Int), (j : Int), l, n, d) V vars = fracSub (fr V (i : Int)) (fr V (j : Int)) := by simp [nodeVal]
      rw [e1]
      exact sNode_4 V vars A B c e i j l n d w hi hj hA
    by_cases k5 : k = 5
    · subst k5
      have e1 : nodeVal (5, (i : Int), (j : Int), l, n, d) V vars = fracMul (fr V (i : Int)) (fr V (j : Int)) := by simp [nodeVal]
      rw [e1]
      exact sNode_5 V vars A B c e i j l n d w hi hj hA
    by_cases k6 : k = 6
    · subst k6
      have e1 : nodeVal (6, (i : Int), (j : Int), l, n, d) V vars = fracDiv (fr V (i : Int)) (fr V (j : Int)) := by simp [nodeVal]
      rw [e1]
      exact sNode_6 V vars A B c e i j l n d w hi hj hA
    by_cases k7 : k = 7
    · subst k7
      exact sNode_7 V vars A B c e i j l _ n d w hi hj hA (show _ = _ by simp [nodeVal])
    by_cases k8 : k = 8
    · subst k8
      exact sNode_8 V vars A B c e i j l _ n d w hi hj hA (show _ = _ by simp [nodeVal])
    have k9 : k = 9 := by omega
    subst k9
    have h6 := h5 rfl
    obtain ⟨q, rfl⟩ : ∃ q : Nat, l = q := ⟨l.toNat, by omega⟩
    exact sNode_9 V vars A B c e i j q _ n d w hi hj hA (by omega) (show _ = _ by simp [nodeVal])

theorem iValue_any (x : TNode) (V vars : List TFrac) (A B : Option Addr) (c e : Nat) (w : World) (hn : nodeOkT x V.length = true) (hv : vars.length = 8) (hV : fracsOk V = true) (hA : AtFrac w A V) (hB : AtFrac w B vars) :
    Calls Tryz.prog 190 #[.agg #[.int .i64 x.1, .int .i64 x.2.1, .int .i64 x.2.2.1, .int .i64 x.2.2.2.1, .int .i64 x.2.2.2.2.1, .int .i64 x.2.2.2.2.2], .slice A V.length c, .slice B vars.length e] w fun en w' => en = .returned (.tuple #[.agg #[.int .i64 (nodeVal x V vars).1, .int .i64 (nodeVal x V vars).2.1], .bool (nodeVal x V vars).2.2]) ∧ Same w w' := by
  have hr := node_range hn
  clear hn
  obtain ⟨k, a, b, l, n, d⟩ := x
  dsimp only at hr ⊢
  rcases hr with ⟨rfl, _⟩ | ⟨rfl, h2, h3⟩ | ⟨h1, h2, h3, h4, h5⟩
  · have e1 : nodeVal (1, a, b, l, n, d) V vars = (n, d, true) := by simp [nodeVal]
    rw [e1]
    exact iNode_1 V vars A B c e a b l n d w
  · obtain ⟨i, rfl⟩ : ∃ i : Nat, a = i := ⟨a.toNat, by omega⟩
    have e1 : nodeVal (2, (i : Int), b, l, n, d) V vars = yesF (fr vars (i : Int)) := by simp [nodeVal]
    rw [e1]
    exact iNode_2 V vars A B c e i b l n d w (by omega) hB
  · obtain ⟨i, rfl⟩ : ∃ i : Nat, a = i := ⟨a.toNat, by omega⟩
    obtain ⟨j, rfl⟩ : ∃ j : Nat, b = j := ⟨b.toNat, by omega⟩
    have hi : i < V.length := by omega
    have hj : j < V.length := by omega
    by_cases k3 : k = 3
    · subst k3
      have e1 : nodeVal (3, (i : Int), (j : Int), l, n, d) V vars = fracAdd (fr V (i : Int)) (fr V (j : Int)) := by simp [nodeVal]
      rw [e1]
      exact iNode_3 V vars A B c e i j l n d w hi hj hA
    by_cases k4 : k = 4
    · subst k4
      have e1 : nodeVal (4, (i : Int), (j : Int), l, n, d) V vars = fracSub (fr V (i : Int)) (fr V (j : Int)) := by simp [nodeVal]
      rw [e1]
      exact iNode_4 V vars A B c e i j l n d w hi hj hA
    by_cases k5 : k = 5
    · subst k5
      have e1 : nodeVal (5, (i : Int), (j : Int), l, n, d) V vars = fracMul (fr V (i : Int)) (fr V (j : Int)) := by simp [nodeVal]
      rw [e1]
      exact iNode_5 V vars A B c e i j l n d w hi hj hA
    by_cases k6 : k = 6
    · subst k6
      have e1 : nodeVal (6, (i : Int), (j : Int), l, n, d) V vars = fracDiv (fr V (i : Int)) (fr V (j : Int)) := by simp [nodeVal]
      rw [e1]
      exact iNode_6 V vars A B c e i j l n d w hi hj hA
    by_cases k7 : k = 7
    · subst k7
      exact iNode_7 V vars A B c e i j l _ n d w hi hj hA hV (show _ = _ by simp [nodeVal])
    by_cases k8 : k = 8
    · subst k8
      exact iNode_8 V vars A B c e i j l _ n d w hi hj hA hV (show _ = _ by simp [nodeVal])
    have k9 : k = 9 := by omega
    subst k9
    have h6 := h5 rfl
    obtain ⟨q, rfl⟩ : ∃ q : Nat, l = q := ⟨l.toNat, by omega⟩
    exact iNode_9 V vars A B c e i j q _ n d w hi hj hA (by omega) (show _ = _ by simp [nodeVal])
end Go.Proofs.YtjfmknhnplefnaaGreat
