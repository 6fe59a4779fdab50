/-
  Cases: fractions, formulas, rules, facts, points, spells, events: plain definitions, no program.
-/
import Derived.Test.YtjfmknhnplefnaaPlain
namespace Go.Proofs.Ytjfmknhnplefnaa

abbrev TFrac := Int × Int
abbrev TNode := Int × Int × Int × Int × Int × Int
abbrev TFact := Int × Int × Int × Int × Int
abbrev TPoint := Int × Int × Int
abbrev TSpell := Int × Int × Int × Bool
abbrev TEvent := Int × Int
/-- A rule without its nodes: name, from, to, joined, rank, mode. -/
structure TRule where
  name : Int
  from_ : Int
  to_ : Int
  joined : Int
  rank : Int
  mode : Int
  nodes : List TNode
instance : Inhabited TRule := ⟨⟨0, 0, 0, 0, 0, 0, []⟩⟩

theorem inB_false {n lo hi : Int} : inB n lo hi = false ↔ n < lo ∨ hi < n := by
  simp [inB]
  omega
theorem allTo_len_false {p : Nat → Bool} {n k : Nat} {b : Bool} (hk : k < n) (h : p k = false) : false = (allTo p n && b) := by simp [allTo_false h hk]

/-! Fractions -/
def fracOk (n d : Int) : Bool := inB d 1 1000000 && inB n (-1000000000000) 1000000000000 && decide (Int.gcd n d = 1)

/-! Formulas -/
def nodeOk (k a b c n d : Int) (i : Int) : Bool :=
  if k = 1 then a == 0 && b == 0 && c == 0 && fracOk n d
  else if n != 0 || d != 0 then false
  else if k = 2 then inB a 0 7 && b == 0 && c == 0
  else if inB k 3 8 then inB a 0 (i - 1) && inB b 0 (i - 1) && c == 0
  else k == 9 && inB a 0 (i - 1) && inB b 0 (i - 1) && inB c 0 (i - 1)
def nodeOkT (x : TNode) (i : Int) : Bool := nodeOk x.1 x.2.1 x.2.2.1 x.2.2.2.1 x.2.2.2.2.1 x.2.2.2.2.2 i
def nodeAt (L : List TNode) (k : Nat) : Bool := nodeOkT (L.getD k (0, 0, 0, 0, 0, 0)) k
theorem nodeAt_eq {L : List TNode} {k : Nat} {x : TNode} (h : L[k]? = some x) : nodeAt L k = nodeOkT x k := by simp [nodeAt, List.getD, h]
def formulaOk (L : List TNode) : Bool := allTo (nodeAt L) L.length && inB L.length 1 30
theorem formulaOk_false {L : List TNode} {k : Nat} (hk : k < L.length) (h : nodeAt L k = false) : false = formulaOk L := allTo_len_false hk h

/-! Rules and books -/
def ruleOk (r : TRule) : Bool :=
  inB r.name 1 20 && (decide (0 ≤ r.from_) && decide (r.from_ < r.to_) && decide (r.to_ ≤ 3600)) && inB r.joined 1 3600 && inB r.rank 0 9 && inB r.mode 1 4 && formulaOk r.nodes
/-- The elder rule o stands in the way of r. -/
def clash (o r : TRule) : Bool := o.name == r.name && o.rank == r.rank && decide (o.from_ < r.to_) && decide (r.from_ < o.to_)
def clear_ (R : List TRule) (i : Nat) (k : Nat) : Bool := !clash (R.getD k default) (R.getD i default)
def ruleAt (R : List TRule) (i : Nat) : Bool := ruleOk (R.getD i default) && allTo (clear_ R i) i
def bookOk (R : List TRule) : Bool := allTo (ruleAt R) R.length && decide (R.length ≤ 20)
theorem bookOk_false {R : List TRule} {k : Nat} (hk : k < R.length) (h : ruleAt R k = false) : false = bookOk R := allTo_len_false hk h
/-- A rule for this figure, month and member. -/
def applies (r : TRule) (name m joined : Int) : Bool := r.name == name && decide (r.from_ ≤ m) && decide (m < r.to_) && decide (joined < r.joined)
def bestTo (R : List TRule) (name m joined : Int) : Nat → Int
  | 0 => -1
  | k + 1 =>
    let b := bestTo R name m joined k
    if applies (R.getD k default) name m joined && (decide (b < 0) || decide ((R.getD b.toNat default).rank < (R.getD k default).rank)) then k else b
theorem bestTo_range (R : List TRule) (name m joined : Int) : ∀ k, -1 ≤ bestTo R name m joined k ∧ bestTo R name m joined k < k
  | 0 => by simp [bestTo]
  | k + 1 => by
    have := bestTo_range R name m joined k
    simp only [bestTo]
    split <;> omega
def ruleFor (R : List TRule) (name m joined : Int) : Int := if bookOk R then bestTo R name m joined R.length else -1

/-! Facts -/
def factOk (k f t n v : Int) : Bool := inB k 1 50 && (decide (0 ≤ f) && decide (f < t) && decide (t ≤ 3600)) && inB n 0 3599 && inB v (-1000000000) 1000000000
def factOkT (x : TFact) : Bool := factOk x.1 x.2.1 x.2.2.1 x.2.2.2.1 x.2.2.2.2
def factAt (F : List TFact) (k : Nat) : Bool := factOkT (F.getD k (0, 0, 0, 0, 0)) && (k == 0 || decide ((F.getD (k - 1) (0, 0, 0, 0, 0)).2.2.2.1 ≤ (F.getD k (0, 0, 0, 0, 0)).2.2.2.1))
theorem factAt_zero {F : List TFact} {x : TFact} (hx : F[0]? = some x) : factAt F 0 = factOkT x := by simp [factAt, List.getD, hx]
theorem factAt_succ {F : List TFact} {j : Nat} {x y : TFact} (hx : F[j]? = some x) (hy : F[j + 1]? = some y) : factAt F (j + 1) = (factOkT y && decide (x.2.2.2.1 ≤ y.2.2.2.1)) := by simp [factAt, List.getD, hx, hy]
def storeOk (F : List TFact) : Bool := allTo (factAt F) F.length && decide (F.length ≤ 200)
theorem storeOk_false {F : List TFact} {k : Nat} (hk : k < F.length) (h : factAt F k = false) : false = storeOk F := allTo_len_false hk h

/-! Series -/
def pointOk (m n v : Int) : Bool := inB m 0 3599 && inB n 0 3599 && decide (m ≤ n) && inB v 1 1000000
def pointAt (P : List TPoint) (k : Nat) : Bool :=
  pointOk (P.getD k (0, 0, 0)).1 (P.getD k (0, 0, 0)).2.1 (P.getD k (0, 0, 0)).2.2 && (k == 0 || decide ((P.getD (k - 1) (0, 0, 0)).2.1 ≤ (P.getD k (0, 0, 0)).2.1))
theorem pointAt_zero {P : List TPoint} {m n v : Int} (hx : P[0]? = some (m, n, v)) : pointAt P 0 = pointOk m n v := by simp [pointAt, List.getD, hx]
theorem pointAt_succ {P : List TPoint} {j : Nat} {m n v : Int} {x : TPoint} (hx : P[j]? = some x) (hy : P[j + 1]? = some (m, n, v)) : pointAt P (j + 1) = (pointOk m n v && decide (x.2.1 ≤ n)) := by simp [pointAt, List.getD, hx, hy]
def seriesOk (P : List TPoint) : Bool := allTo (pointAt P) P.length && decide (P.length ≤ 200)
theorem seriesOk_false {P : List TPoint} {k : Nat} (hk : k < P.length) (h : pointAt P k = false) : false = seriesOk P := allTo_len_false hk h

/-! Spells -/
def spellOk (f t p : Int) : Bool := (decide (0 ≤ f) && decide (f < t) && decide (t ≤ 3600)) && inB p 1 100
def spellAt (S : List TSpell) (k : Nat) : Bool :=
  spellOk (S.getD k (0, 0, 0, false)).1 (S.getD k (0, 0, 0, false)).2.1 (S.getD k (0, 0, 0, false)).2.2.1 && (k == 0 || decide ((S.getD (k - 1) (0, 0, 0, false)).2.1 ≤ (S.getD k (0, 0, 0, false)).1))
theorem spellAt_zero {S : List TSpell} {f t p : Int} {b : Bool} (hx : S[0]? = some (f, t, p, b)) : spellAt S 0 = spellOk f t p := by simp [spellAt, List.getD, hx]
theorem spellAt_succ {S : List TSpell} {j : Nat} {f t p : Int} {b : Bool} {x : TSpell} (hx : S[j]? = some x) (hy : S[j + 1]? = some (f, t, p, b)) : spellAt S (j + 1) = (spellOk f t p && decide (x.2.1 ≤ f)) := by simp [spellAt, List.getD, hx, hy]
def spellsOk (S : List TSpell) : Bool := allTo (spellAt S) S.length && decide (S.length ≤ 30)
theorem spellsOk_false {S : List TSpell} {k : Nat} (hk : k < S.length) (h : spellAt S k = false) : false = spellsOk S := allTo_len_false hk h

/-! Events -/
def statusAfter (s k : Int) : Int × Bool :=
  if k = 1 ∧ (s = 0 ∨ s = 2) then (1, true)
  else if k = 2 ∧ s = 1 then (2, true)
  else if k = 3 ∧ (s = 1 ∨ s = 2) then (3, true)
  else if k = 4 ∧ 1 ≤ s ∧ s ≤ 3 then (4, true)
  else (s, false)
/-- The status after k events. -/
def statTo (E : List TEvent) : Nat → Int
  | 0 => 0
  | k + 1 => (statusAfter (statTo E k) (E.getD k (0, 0)).1).1
theorem statusAfter_range {s k : Int} (h0 : 0 ≤ s) (h1 : s ≤ 4) : 0 ≤ (statusAfter s k).1 ∧ (statusAfter s k).1 ≤ 4 := by
  unfold statusAfter
  repeat' split
  all_goals simp
  all_goals omega
theorem statTo_range (E : List TEvent) : ∀ k, 0 ≤ statTo E k ∧ statTo E k ≤ 4
  | 0 => by simp [statTo]
  | k + 1 => statusAfter_range (statTo_range E k).1 (statTo_range E k).2
theorem statTo_succ {E : List TEvent} {j : Nat} {k m : Int} (hx : E[j]? = some (k, m)) : statTo E (j + 1) = (statusAfter (statTo E j) k).1 := by simp [statTo, List.getD, hx]
def eventAt (E : List TEvent) (k : Nat) : Bool :=
  (statusAfter (statTo E k) (E.getD k (0, 0)).1).2 && inB (E.getD k (0, 0)).2 0 3599 && (k == 0 || decide ((E.getD (k - 1) (0, 0)).2 < (E.getD k (0, 0)).2))
theorem eventAt_zero {E : List TEvent} {k m : Int} (hx : E[0]? = some (k, m)) : eventAt E 0 = ((statusAfter (statTo E 0) k).2 && inB m 0 3599) := by simp [eventAt, List.getD, hx]
theorem eventAt_succ {E : List TEvent} {j : Nat} {k m : Int} {x : TEvent} (hx : E[j]? = some x) (hy : E[j + 1]? = some (k, m)) : eventAt E (j + 1) = ((statusAfter (statTo E (j + 1)) k).2 && inB m 0 3599 && decide (x.2 < m)) := by simp [eventAt, List.getD, hx, hy]
def eventsOk (E : List TEvent) : Bool := allTo (eventAt E) E.length && decide (E.length ≤ 30)
theorem eventsOk_false {E : List TEvent} {k : Nat} (hk : k < E.length) (h : eventAt E k = false) : false = eventsOk E := allTo_len_false hk h

/-! Members and cases -/
def memberOk (birth joined : Int) (S : List TSpell) (E : List TEvent) : Bool := inB birth 0 3599 && inB joined 0 3599 && decide (birth ≤ joined) && spellsOk S && eventsOk E
def caseOk (R : List TRule) (F : List TFact) (P : List TPoint) (birth joined : Int) (S : List TSpell) (E : List TEvent) : Bool := bookOk R && storeOk F && seriesOk P && memberOk birth joined S E
end Go.Proofs.Ytjfmknhnplefnaa
