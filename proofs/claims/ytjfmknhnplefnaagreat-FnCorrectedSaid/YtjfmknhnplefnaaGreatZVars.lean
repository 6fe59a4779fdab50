/- Joined of PlainVars, VarInv: what is proved stands ahead of each part. -/
import Derived.Test.YtjfmknhnplefnaaGreatZCaseOk
import Derived.Test.YtjfmknhnplefnaaGreatZPlain
import Derived.Test.YtjfmknhnplefnaaGreatZOrd
import Derived.Test.YtjfmknhnplefnaaGreatZCaseRec
import Derived.Test.YtjfmknhnplefnaaGreatZNodeVal

section
/-
  The variables of a case, its entitlements and corrections: plain definitions, no program.
-/
namespace Go.Proofs.YtjfmknhnplefnaaGreat

def service (D : TCase) (m : Int) : RFrac := lowest (serviceIn D.S 0 m) 100
def varsOf (D : TCase) (m known : Int) : List TFrac :=
  [((service D m).1, (service D m).2.1), ((finalPay D.F m known).1, 1), (ageDone D.birth m, 1), ratioOf D.P D.joined m known, (sinceOf D.E m, 1), (m, 1), (0, 1), (0, 1)]
def varsRange (D : TCase) (m known : Int) : Bool := inB m 0 3599 && inB known 0 3599 && decide (D.joined ≤ m)
/-- The variables of a valid case. -/
def varsIn (D : TCase) (m known : Int) : List TFrac × Bool := if varsRange D m known && fracsOk (varsOf D m known) then (varsOf D m known, true) else ([], false)
def varsFor (D : TCase) (m known : Int) : List TFrac × Bool := if D.ok then varsIn D m known else ([], false)
/-- The entitlement of a valid case. -/
def entIn (D : TCase) (m known : Int) : Int :=
  if statusAt D.E m = 3 then
    (if (varsIn D m known).2 && (figure D.R m D.joined (varsIn D m known).1).2.2 then min (max (figure D.R m D.joined (varsIn D m known).1).1 0) 10000000 else 0)
  else 0
def entAt (D : TCase) (m known : Int) : Int := if D.ok then entIn D m known else 0
def entTo (D : TCase) (f known : Int) (n : Nat) : List Int := (List.range n).map fun k : Nat => entIn D (f + (k : Int)) known
def entsOk (D : TCase) (f t : Int) : Bool := D.ok && endOk f && endOk t && decide (t ≤ f + 240)
def ents (D : TCase) (f t known : Int) : List Int := if entsOk D f t then entTo D f known (t - f).toNat else []

theorem entIn_range (D : TCase) (m known : Int) : 0 ≤ entIn D m known ∧ entIn D m known ≤ 10000000 := by
  unfold entIn
  split
  · split <;> omega
  · omega
theorem entTo_succ (D : TCase) (f known : Int) (n : Nat) : entTo D f known (n + 1) = entTo D f known n ++ [entIn D (f + (n : Int)) known] := by simp [entTo, List.range_succ]
theorem entTo_length (D : TCase) (f known : Int) (n : Nat) : (entTo D f known n).length = n := by simp [entTo]
theorem ents_length (D : TCase) (f t known : Int) : (ents D f t known).length = if entsOk D f t then (t - f).toNat else 0 := by
  unfold ents; split
  · exact entTo_length _ _ _ _
  · rfl
theorem entsOk_len {D : TCase} {f t : Int} (h : entsOk D f t = true) : 0 ≤ f ∧ f ≤ 3600 ∧ 0 ≤ t ∧ t ≤ 3600 ∧ t ≤ f + 240 := by
  simp only [entsOk, Bool.and_eq_true, endOk, inB_iff, decide_eq_true_eq] at h
  omega
theorem ents_short (D : TCase) (f t known : Int) : (ents D f t known).length ≤ 240 := by
  rw [ents_length]; split
  · rename_i h; have := entsOk_len h; omega
  · omega
theorem ents_alike (D : TCase) (f t a b : Int) : (ents D f t a).length = (ents D f t b).length := by rw [ents_length, ents_length]
theorem ents_range (D : TCase) (f t known : Int) : ∀ x ∈ ents D f t known, 0 ≤ x ∧ x ≤ 10000000 := by
  intro x hx
  unfold ents at hx
  split at hx
  · obtain ⟨k, _, rfl⟩ := List.mem_map.1 hx
    exact entIn_range _ _ _
  · simp at hx

/-! Corrections -/
abbrev TCorr := Int × Int × Int
def corrTo (f : Int) (X Y : List Int) : Nat → List TCorr
  | 0 => []
  | k + 1 => if X.getD k 0 = Y.getD k 0 then corrTo f X Y k else corrTo f X Y k ++ [(f + (k : Int), X.getD k 0, Y.getD k 0)]
def corrs (D : TCase) (f t a b : Int) : List TCorr := corrTo f (ents D f t a) (ents D f t b) (ents D f t a).length
def firstOf (L : List TCorr) : Int := match L with | [] => -1 | x :: _ => x.1
theorem corrTo_eq {f : Int} {X Y : List Int} {k : Nat} {x : Int} (hx : X[k]? = some x) (hy : Y[k]? = some x) : corrTo f X Y (k + 1) = corrTo f X Y k := by simp [corrTo, List.getD, hx, hy]
theorem corrTo_ne {f : Int} {X Y : List Int} {k : Nat} {x y : Int} (hx : X[k]? = some x) (hy : Y[k]? = some y) (h : x ≠ y) : corrTo f X Y (k + 1) = corrTo f X Y k ++ [(f + (k : Int), x, y)] := by simp [corrTo, List.getD, hx, hy, h]
theorem corrTo_length (f : Int) (X Y : List Int) : ∀ k, (corrTo f X Y k).length ≤ k
  | 0 => Nat.le_refl _
  | k + 1 => by
    have := corrTo_length f X Y k
    unfold corrTo; split
    · omega
    · rw [List.length_append, List.length_singleton]; omega
theorem corrs_short (D : TCase) (f t a b : Int) : (corrs D f t a b).length ≤ 240 := Nat.le_trans (corrTo_length _ _ _ _) (ents_short _ _ _ _)
def flipC (x : TCorr) : TCorr := (x.1, x.2.2, x.2.1)
theorem corrTo_flip (f : Int) (X Y : List Int) : ∀ k, corrTo f Y X k = (corrTo f X Y k).map flipC
  | 0 => rfl
  | k + 1 => by
    unfold corrTo
    by_cases h : X.getD k 0 = Y.getD k 0
    · rw [if_pos h, if_pos h.symm]; exact corrTo_flip f X Y k
    · rw [if_neg h, if_neg (fun e => h e.symm), List.map_append, corrTo_flip f X Y k]; rfl
theorem corrs_flip (D : TCase) (f t a b : Int) : corrs D f t b a = (corrs D f t a b).map flipC := by
  unfold corrs
  rw [ents_alike D f t b a]
  exact corrTo_flip _ _ _ _
theorem corrTo_same (f : Int) (X : List Int) : ∀ k, corrTo f X X k = []
  | 0 => rfl
  | k + 1 => by unfold corrTo; rw [if_pos rfl]; exact corrTo_same f X k
theorem corrs_same (D : TCase) (f t a : Int) : corrs D f t a a = [] := corrTo_same _ _ _
end Go.Proofs.YtjfmknhnplefnaaGreat
end

section
/-
  What has come up of a case's variables: an invariant over every order.
-/
namespace Go.Proofs.YtjfmknhnplefnaaGreat
open Go.RowKit
set_option linter.unusedVariables false

structure VarInv (W : World) (g8 : Nat) (s1 s2 pay birth m age r1 r2 ret since : Int) (l : Nat → Bool) (t : Nat → Value) (w1 : World) : Prop where
  same : Same W w1
  a0 : l 0 = true → t 78 = .agg #[.int .i64 s1, .int .i64 s2]
  a1 : l 1 = true → t 79 = .int .i64 pay
  a2 : l 2 = true → t 80 = .agg #[.int .i64 pay, .int .i64 1]
  a3 : l 3 = true → t 81 = .pointer (some ⟨g8, 0, none⟩)
  a4 : l 4 = true → t 82 = .int .i64 birth
  a5 : l 5 = true → t 83 = .int .i64 m
  a6 : l 6 = true → t 84 = .int .i64 age
  a7 : l 7 = true → t 85 = .agg #[.int .i64 age, .int .i64 1]
  a8 : l 8 = true → t 86 = .agg #[.int .i64 r1, .int .i64 r2]
  a9 : l 9 = true → t 87 = .int .i64 m
  a10 : l 10 = true → t 88 = .int .i64 ret
  a11 : l 11 = true → t 89 = .int .i64 since
  a12 : l 12 = true → t 90 = .agg #[.int .i64 since, .int .i64 1]
  a13 : l 13 = true → t 91 = .int .i64 m
  a14 : l 14 = true → t 92 = .agg #[.int .i64 m, .int .i64 1]
  a15 : l 15 = true → t 93 = .agg #[.int .i64 0, .int .i64 1]
  a16 : l 16 = true → t 94 = .agg #[.int .i64 0, .int .i64 1]
  a17 : l 17 = true → ∃ g, t 95 = .slice (some ⟨g, 0, none⟩) 8 8 ∧ W.heap.size ≤ g ∧ BoxAt w1 g 101 [.int .i64 s1, .int .i64 s2, .int .i64 pay, .int .i64 1, .int .i64 age, .int .i64 1, .int .i64 r1, .int .i64 r2, .int .i64 since, .int .i64 1, .int .i64 m, .int .i64 1, .int .i64 0, .int .i64 1, .int .i64 0, .int .i64 1]
  a18 : l 18 = true → t 16 = t 95
  d18 : l 18 = true → l 17 = true
section
variable {W w1 w2 : World} {g8 : Nat} {s1 s2 pay birth m age r1 r2 ret since : Int} {l : Nat → Bool} {t : Nat → Value}
theorem VarInv.start (hs : Same W w1) : VarInv W g8 s1 s2 pay birth m age r1 r2 ret since (fun _ => false) t w1 := by
  constructor <;> first | exact hs | exact fun h => by cases h
theorem VarInv.world (i : VarInv W g8 s1 s2 pay birth m age r1 r2 ret since l t w1) (hs : Same w1 w2) : VarInv W g8 s1 s2 pay birth m age r1 r2 ret since l t w2 := by
  refine { i with same := i.same.trans hs, a17 := fun h => ?_ }
  obtain ⟨g, h1, h2, h3⟩ := i.a17 h
  exact ⟨g, h1, h2, h3.same hs⟩
theorem VarInv.q0 (i : VarInv W g8 s1 s2 pay birth m age r1 r2 ret since l t w1) : VarInv W g8 s1 s2 pay birth m age r1 r2 ret since (upd l 0) (updT t 78 (.agg #[.int .i64 s1, .int .i64 s2])) w1 := { i with a0 := fun _ => rfl }
theorem VarInv.q1 (i : VarInv W g8 s1 s2 pay birth m age r1 r2 ret since l t w1) : VarInv W g8 s1 s2 pay birth m age r1 r2 ret since (upd l 1) (updT t 79 (.int .i64 pay)) w1 := { i with a1 := fun _ => rfl }
theorem VarInv.q2 (i : VarInv W g8 s1 s2 pay birth m age r1 r2 ret since l t w1) : VarInv W g8 s1 s2 pay birth m age r1 r2 ret since (upd l 2) (updT t 80 (.agg #[.int .i64 pay, .int .i64 1])) w1 := { i with a2 := fun _ => rfl }
theorem VarInv.q3 (i : VarInv W g8 s1 s2 pay birth m age r1 r2 ret since l t w1) : VarInv W g8 s1 s2 pay birth m age r1 r2 ret since (upd l 3) (updT t 81 (.pointer (some ⟨g8, 0, none⟩))) w1 := { i with a3 := fun _ => rfl }
theorem VarInv.q4 (i : VarInv W g8 s1 s2 pay birth m age r1 r2 ret since l t w1) : VarInv W g8 s1 s2 pay birth m age r1 r2 ret since (upd l 4) (updT t 82 (.int .i64 birth)) w1 := { i with a4 := fun _ => rfl }
theorem VarInv.q5 (i : VarInv W g8 s1 s2 pay birth m age r1 r2 ret since l t w1) : VarInv W g8 s1 s2 pay birth m age r1 r2 ret since (upd l 5) (updT t 83 (.int .i64 m)) w1 := { i with a5 := fun _ => rfl }
theorem VarInv.q6 (i : VarInv W g8 s1 s2 pay birth m age r1 r2 ret since l t w1) : VarInv W g8 s1 s2 pay birth m age r1 r2 ret since (upd l 6) (updT t 84 (.int .i64 age)) w1 := { i with a6 := fun _ => rfl }
theorem VarInv.q7 (i : VarInv W g8 s1 s2 pay birth m age r1 r2 ret since l t w1) : VarInv W g8 s1 s2 pay birth m age r1 r2 ret since (upd l 7) (updT t 85 (.agg #[.int .i64 age, .int .i64 1])) w1 := { i with a7 := fun _ => rfl }
theorem VarInv.q8 (i : VarInv W g8 s1 s2 pay birth m age r1 r2 ret since l t w1) : VarInv W g8 s1 s2 pay birth m age r1 r2 ret since (upd l 8) (updT t 86 (.agg #[.int .i64 r1, .int .i64 r2])) w1 := { i with a8 := fun _ => rfl }
theorem VarInv.q9 (i : VarInv W g8 s1 s2 pay birth m age r1 r2 ret since l t w1) : VarInv W g8 s1 s2 pay birth m age r1 r2 ret since (upd l 9) (updT t 87 (.int .i64 m)) w1 := { i with a9 := fun _ => rfl }
theorem VarInv.q10 (i : VarInv W g8 s1 s2 pay birth m age r1 r2 ret since l t w1) : VarInv W g8 s1 s2 pay birth m age r1 r2 ret since (upd l 10) (updT t 88 (.int .i64 ret)) w1 := { i with a10 := fun _ => rfl }
theorem VarInv.q11 (i : VarInv W g8 s1 s2 pay birth m age r1 r2 ret since l t w1) : VarInv W g8 s1 s2 pay birth m age r1 r2 ret since (upd l 11) (updT t 89 (.int .i64 since)) w1 := { i with a11 := fun _ => rfl }
theorem VarInv.q12 (i : VarInv W g8 s1 s2 pay birth m age r1 r2 ret since l t w1) : VarInv W g8 s1 s2 pay birth m age r1 r2 ret since (upd l 12) (updT t 90 (.agg #[.int .i64 since, .int .i64 1])) w1 := { i with a12 := fun _ => rfl }
theorem VarInv.q13 (i : VarInv W g8 s1 s2 pay birth m age r1 r2 ret since l t w1) : VarInv W g8 s1 s2 pay birth m age r1 r2 ret since (upd l 13) (updT t 91 (.int .i64 m)) w1 := { i with a13 := fun _ => rfl }
theorem VarInv.q14 (i : VarInv W g8 s1 s2 pay birth m age r1 r2 ret since l t w1) : VarInv W g8 s1 s2 pay birth m age r1 r2 ret since (upd l 14) (updT t 92 (.agg #[.int .i64 m, .int .i64 1])) w1 := { i with a14 := fun _ => rfl }
theorem VarInv.q15 (i : VarInv W g8 s1 s2 pay birth m age r1 r2 ret since l t w1) : VarInv W g8 s1 s2 pay birth m age r1 r2 ret since (upd l 15) (updT t 93 (.agg #[.int .i64 0, .int .i64 1])) w1 := { i with a15 := fun _ => rfl }
theorem VarInv.q16 (i : VarInv W g8 s1 s2 pay birth m age r1 r2 ret since l t w1) : VarInv W g8 s1 s2 pay birth m age r1 r2 ret since (upd l 16) (updT t 94 (.agg #[.int .i64 0, .int .i64 1])) w1 := { i with a16 := fun _ => rfl }
theorem VarInv.q17 (i : VarInv W g8 s1 s2 pay birth m age r1 r2 ret since l t w1) (h0 : l 17 = false) : VarInv W g8 s1 s2 pay birth m age r1 r2 ret since (upd l 17) (updT t 95 (.slice (some ⟨w1.heap.size, 0, none⟩) 8 8)) (w1.alloc (.cells #[.int .i64 s1, .int .i64 s2, .int .i64 pay, .int .i64 1, .int .i64 age, .int .i64 1, .int .i64 r1, .int .i64 r2, .int .i64 since, .int .i64 1, .int .i64 m, .int .i64 1, .int .i64 0, .int .i64 1, .int .i64 0, .int .i64 1] 101)) := by
  have h18 : l 18 = false := by cases h : l 18; rfl; rw [i.d18 h] at h0; cases h0
  refine { i with same := i.same.alloc _, a17 := fun _ => ⟨w1.heap.size, rfl, i.same.size, BoxAt.new w1 101 [.int .i64 s1, .int .i64 s2, .int .i64 pay, .int .i64 1, .int .i64 age, .int .i64 1, .int .i64 r1, .int .i64 r2, .int .i64 since, .int .i64 1, .int .i64 m, .int .i64 1, .int .i64 0, .int .i64 1, .int .i64 0, .int .i64 1]⟩, a18 := fun h => ?_, d18 := fun _ => rfl }
  have h2 : l 18 = true := h
  rw [h18] at h2; cases h2
theorem VarInv.q18 (i : VarInv W g8 s1 s2 pay birth m age r1 r2 ret since l t w1) (h17 : l 17 = true) : VarInv W g8 s1 s2 pay birth m age r1 r2 ret since (upd l 18) (updT t 16 (t 95)) w1 := { i with a18 := fun _ => rfl, d18 := fun _ => h17 }
end

/-- A row that lies as a literal. -/
theorem OwnR.of_box {T : Type} {s : Nat} {cells : T → List Value} {e : TypeId} {w : World} {base g : Nat} {vs : List Value} {L : List T} (h : BoxAt w g e vs) (hb : base ≤ g) (hv : vs = L.flatMap cells) (hs : vs.length = L.length * s) (hm : L.length ≤ 1000) :
    OwnR e s cells w base (.slice (some ⟨g, 0, none⟩) L.length L.length) L := by
  refine ⟨by rw [← hv, hs], .inr ⟨g, L.length, vs.toArray, rfl, hb, h, Nat.le_refl _, by unfold maxLen; omega, by simpa using hs, ?_⟩⟩
  rw [← hv]
  show List.take _ vs = vs
  rw [← hs, List.take_length]
end Go.Proofs.YtjfmknhnplefnaaGreat
end

