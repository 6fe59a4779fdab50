/-
  append of records to rows of the call's own, which may lie side by side.
-/
import Derived.Test.YtjfmknhnplefnaaGreatZFine
import Derived.Test.YtjfmknhnplefnaaGreatZCaseNode
namespace Go.Proofs.YtjfmknhnplefnaaGreat
open Go.RowKit
set_option linter.unusedVariables false

theorem wp_allFact (w : World) {o : Oper} {a : Act} {K : Act → World → Prop} {Q : Exit → Act → World → Prop} (s x : Operand)
    (ho : o.op = .call { callee := .builtin .append, args := #[s, x], argTypes := #[27, 27] })
    (base : Nat) (v : Value) (L : List TFact) (hs : a.eval s = v) (hown : OwnR 140 5 cFact w base v L) (A : Option Addr) (c : Nat) (M : List TFact) (hx : a.eval x = .slice A M.length c) (hM : RecAt 5 cFact w A M) (hA : A = none → c = 0)
    (hn : L.length + M.length ≤ 1000000000) (hbase : base ≤ w.heap.size)
    (h : ∀ v' w', OwnR 140 5 cFact w' base v' (L ++ M) → w.grownBy w' v.ownBlock → From w v v' → K (a.put o.dst v') w') : o.wp Tryz.prog a w K Q :=
  wp_fineR w s x 27 ho (.agg #[.int .i64 0, .int .i64 0, .int .i64 0, .int .i64 0, .int .i64 0]) 40 Tryz.underlying27 Tryz.infoFact rfl (by decide) cFact_len cFact_one base v L hs hown A c M hx hM hA hn (by decide) hbase h
theorem step_allFact (w : World) {ops : Array Oper} {o : Oper} {a : Act} {K : Act → World → Prop} {Q : Exit → Act → World → Prop} {E : Prop} (hg : o.guard = none) (s x : Operand)
    (ho : o.op = .call { callee := .builtin .append, args := #[s, x], argTypes := #[27, 27] })
    (base : Nat) (v : Value) (L : List TFact) (hs : a.eval s = v) (hown : OwnR 140 5 cFact w base v L) (A : Option Addr) (c : Nat) (M : List TFact) (hx : a.eval x = .slice A M.length c) (hM : RecAt 5 cFact w A M) (hA : A = none → c = 0)
    (hn : L.length + M.length ≤ 1000000000) (hbase : base ≤ w.heap.size)
    (h : ∀ v' w', OwnR 140 5 cFact w' base v' (L ++ M) → w.grownBy w' v.ownBlock → From w v v' → K (a.put o.dst v') w') :
    if Region.wanted o (yielded ops a.tmps) = true then Oper.wp Tryz.prog o a w K Q else E :=
  step_of hg (wp_allFact w s x ho base v L hs hown A c M hx hM hA hn hbase h)
/-- append of one record out of a new block. -/
theorem wp_oneFact (w : World) {o : Oper} {a : Act} {K : Act → World → Prop} {Q : Exit → Act → World → Prop} (s x : Operand)
    (ho : o.op = .call { callee := .builtin .append, args := #[s, x], argTypes := #[27, 27] })
    (base : Nat) (v : Value) (L : List TFact) (hs : a.eval s = v) (hown : OwnR 140 5 cFact w base v L) (b c : Nat) (y : TFact) (hx : a.eval x = .slice (some ⟨b, 0, none⟩) 1 c) (hc : ∀ j u, (cFact y)[j]? = some u → w.cell? ⟨b, j, none⟩ = some u)
    (hn : L.length ≤ 1000000000 - 1) (hb : b < w.heap.size) (hbase : base ≤ w.heap.size)
    (h : ∀ v' w', OwnR 140 5 cFact w' base v' (L ++ [y]) → w.grownBy w' v.ownBlock → From w v v' → K (a.put o.dst v') w') : o.wp Tryz.prog a w K Q := by
  refine wp_allFact w s x ho base v L hs hown (some ⟨b, 0, none⟩) c [y] hx (.inr ⟨b, 0, rfl, hb, fun k z hk j u hu => ?_⟩) (by simp) (by simp; omega) hbase h
  match k, hk with
  | 0, hk => simp at hk; subst hk; simpa using hc j u hu
theorem step_oneFact (w : World) {ops : Array Oper} {o : Oper} {a : Act} {K : Act → World → Prop} {Q : Exit → Act → World → Prop} {E : Prop} (hg : o.guard = none) (s x : Operand)
    (ho : o.op = .call { callee := .builtin .append, args := #[s, x], argTypes := #[27, 27] })
    (base : Nat) (v : Value) (L : List TFact) (hs : a.eval s = v) (hown : OwnR 140 5 cFact w base v L) (b c : Nat) (y : TFact) (hx : a.eval x = .slice (some ⟨b, 0, none⟩) 1 c) (hc : ∀ j u, (cFact y)[j]? = some u → w.cell? ⟨b, j, none⟩ = some u)
    (hn : L.length ≤ 1000000000 - 1) (hb : b < w.heap.size) (hbase : base ≤ w.heap.size)
    (h : ∀ v' w', OwnR 140 5 cFact w' base v' (L ++ [y]) → w.grownBy w' v.ownBlock → From w v v' → K (a.put o.dst v') w') :
    if Region.wanted o (yielded ops a.tmps) = true then Oper.wp Tryz.prog o a w K Q else E :=
  step_of hg (wp_oneFact w s x ho base v L hs hown b c y hx hc hn hb hbase h)

theorem wp_allPoint (w : World) {o : Oper} {a : Act} {K : Act → World → Prop} {Q : Exit → Act → World → Prop} (s x : Operand)
    (ho : o.op = .call { callee := .builtin .append, args := #[s, x], argTypes := #[30, 30] })
    (base : Nat) (v : Value) (L : List TPoint) (hs : a.eval s = v) (hown : OwnR 150 3 cPoint w base v L) (A : Option Addr) (c : Nat) (M : List TPoint) (hx : a.eval x = .slice A M.length c) (hM : RecAt 3 cPoint w A M) (hA : A = none → c = 0)
    (hn : L.length + M.length ≤ 1000000000) (hbase : base ≤ w.heap.size)
    (h : ∀ v' w', OwnR 150 3 cPoint w' base v' (L ++ M) → w.grownBy w' v.ownBlock → From w v v' → K (a.put o.dst v') w') : o.wp Tryz.prog a w K Q :=
  wp_fineR w s x 30 ho (.agg #[.int .i64 0, .int .i64 0, .int .i64 0]) 24 Tryz.underlying30 Tryz.infoPoint rfl (by decide) cPoint_len cPoint_one base v L hs hown A c M hx hM hA hn (by decide) hbase h
theorem step_allPoint (w : World) {ops : Array Oper} {o : Oper} {a : Act} {K : Act → World → Prop} {Q : Exit → Act → World → Prop} {E : Prop} (hg : o.guard = none) (s x : Operand)
    (ho : o.op = .call { callee := .builtin .append, args := #[s, x], argTypes := #[30, 30] })
    (base : Nat) (v : Value) (L : List TPoint) (hs : a.eval s = v) (hown : OwnR 150 3 cPoint w base v L) (A : Option Addr) (c : Nat) (M : List TPoint) (hx : a.eval x = .slice A M.length c) (hM : RecAt 3 cPoint w A M) (hA : A = none → c = 0)
    (hn : L.length + M.length ≤ 1000000000) (hbase : base ≤ w.heap.size)
    (h : ∀ v' w', OwnR 150 3 cPoint w' base v' (L ++ M) → w.grownBy w' v.ownBlock → From w v v' → K (a.put o.dst v') w') :
    if Region.wanted o (yielded ops a.tmps) = true then Oper.wp Tryz.prog o a w K Q else E :=
  step_of hg (wp_allPoint w s x ho base v L hs hown A c M hx hM hA hn hbase h)
/-- append of one record out of a new block. -/
theorem wp_onePoint (w : World) {o : Oper} {a : Act} {K : Act → World → Prop} {Q : Exit → Act → World → Prop} (s x : Operand)
    (ho : o.op = .call { callee := .builtin .append, args := #[s, x], argTypes := #[30, 30] })
    (base : Nat) (v : Value) (L : List TPoint) (hs : a.eval s = v) (hown : OwnR 150 3 cPoint w base v L) (b c : Nat) (y : TPoint) (hx : a.eval x = .slice (some ⟨b, 0, none⟩) 1 c) (hc : ∀ j u, (cPoint y)[j]? = some u → w.cell? ⟨b, j, none⟩ = some u)
    (hn : L.length ≤ 1000000000 - 1) (hb : b < w.heap.size) (hbase : base ≤ w.heap.size)
    (h : ∀ v' w', OwnR 150 3 cPoint w' base v' (L ++ [y]) → w.grownBy w' v.ownBlock → From w v v' → K (a.put o.dst v') w') : o.wp Tryz.prog a w K Q := by
  refine wp_allPoint w s x ho base v L hs hown (some ⟨b, 0, none⟩) c [y] hx (.inr ⟨b, 0, rfl, hb, fun k z hk j u hu => ?_⟩) (by simp) (by simp; omega) hbase h
  match k, hk with
  | 0, hk => simp at hk; subst hk; simpa using hc j u hu
theorem step_onePoint (w : World) {ops : Array Oper} {o : Oper} {a : Act} {K : Act → World → Prop} {Q : Exit → Act → World → Prop} {E : Prop} (hg : o.guard = none) (s x : Operand)
    (ho : o.op = .call { callee := .builtin .append, args := #[s, x], argTypes := #[30, 30] })
    (base : Nat) (v : Value) (L : List TPoint) (hs : a.eval s = v) (hown : OwnR 150 3 cPoint w base v L) (b c : Nat) (y : TPoint) (hx : a.eval x = .slice (some ⟨b, 0, none⟩) 1 c) (hc : ∀ j u, (cPoint y)[j]? = some u → w.cell? ⟨b, j, none⟩ = some u)
    (hn : L.length ≤ 1000000000 - 1) (hb : b < w.heap.size) (hbase : base ≤ w.heap.size)
    (h : ∀ v' w', OwnR 150 3 cPoint w' base v' (L ++ [y]) → w.grownBy w' v.ownBlock → From w v v' → K (a.put o.dst v') w') :
    if Region.wanted o (yielded ops a.tmps) = true then Oper.wp Tryz.prog o a w K Q else E :=
  step_of hg (wp_onePoint w s x ho base v L hs hown b c y hx hc hn hb hbase h)

theorem wp_allSpell (w : World) {o : Oper} {a : Act} {K : Act → World → Prop} {Q : Exit → Act → World → Prop} (s x : Operand)
    (ho : o.op = .call { callee := .builtin .append, args := #[s, x], argTypes := #[33, 33] })
    (base : Nat) (v : Value) (L : List TSpell) (hs : a.eval s = v) (hown : OwnR 160 4 cSpell w base v L) (A : Option Addr) (c : Nat) (M : List TSpell) (hx : a.eval x = .slice A M.length c) (hM : RecAt 4 cSpell w A M) (hA : A = none → c = 0)
    (hn : L.length + M.length ≤ 1000000000) (hbase : base ≤ w.heap.size)
    (h : ∀ v' w', OwnR 160 4 cSpell w' base v' (L ++ M) → w.grownBy w' v.ownBlock → From w v v' → K (a.put o.dst v') w') : o.wp Tryz.prog a w K Q :=
  wp_fineR w s x 33 ho (.agg #[.int .i64 0, .int .i64 0, .int .i64 0, .bool false]) 32 Tryz.underlying33 Tryz.infoSpell rfl (by decide) cSpell_len cSpell_one base v L hs hown A c M hx hM hA hn (by decide) hbase h
theorem step_allSpell (w : World) {ops : Array Oper} {o : Oper} {a : Act} {K : Act → World → Prop} {Q : Exit → Act → World → Prop} {E : Prop} (hg : o.guard = none) (s x : Operand)
    (ho : o.op = .call { callee := .builtin .append, args := #[s, x], argTypes := #[33, 33] })
    (base : Nat) (v : Value) (L : List TSpell) (hs : a.eval s = v) (hown : OwnR 160 4 cSpell w base v L) (A : Option Addr) (c : Nat) (M : List TSpell) (hx : a.eval x = .slice A M.length c) (hM : RecAt 4 cSpell w A M) (hA : A = none → c = 0)
    (hn : L.length + M.length ≤ 1000000000) (hbase : base ≤ w.heap.size)
    (h : ∀ v' w', OwnR 160 4 cSpell w' base v' (L ++ M) → w.grownBy w' v.ownBlock → From w v v' → K (a.put o.dst v') w') :
    if Region.wanted o (yielded ops a.tmps) = true then Oper.wp Tryz.prog o a w K Q else E :=
  step_of hg (wp_allSpell w s x ho base v L hs hown A c M hx hM hA hn hbase h)
/-- append of one record out of a new block. -/
theorem wp_oneSpell (w : World) {o : Oper} {a : Act} {K : Act → World → Prop} {Q : Exit → Act → World → Prop} (s x : Operand)
    (ho : o.op = .call { callee := .builtin .append, args := #[s, x], argTypes := #[33, 33] })
    (base : Nat) (v : Value) (L : List TSpell) (hs : a.eval s = v) (hown : OwnR 160 4 cSpell w base v L) (b c : Nat) (y : TSpell) (hx : a.eval x = .slice (some ⟨b, 0, none⟩) 1 c) (hc : ∀ j u, (cSpell y)[j]? = some u → w.cell? ⟨b, j, none⟩ = some u)
    (hn : L.length ≤ 1000000000 - 1) (hb : b < w.heap.size) (hbase : base ≤ w.heap.size)
    (h : ∀ v' w', OwnR 160 4 cSpell w' base v' (L ++ [y]) → w.grownBy w' v.ownBlock → From w v v' → K (a.put o.dst v') w') : o.wp Tryz.prog a w K Q := by
  refine wp_allSpell w s x ho base v L hs hown (some ⟨b, 0, none⟩) c [y] hx (.inr ⟨b, 0, rfl, hb, fun k z hk j u hu => ?_⟩) (by simp) (by simp; omega) hbase h
  match k, hk with
  | 0, hk => simp at hk; subst hk; simpa using hc j u hu
theorem step_oneSpell (w : World) {ops : Array Oper} {o : Oper} {a : Act} {K : Act → World → Prop} {Q : Exit → Act → World → Prop} {E : Prop} (hg : o.guard = none) (s x : Operand)
    (ho : o.op = .call { callee := .builtin .append, args := #[s, x], argTypes := #[33, 33] })
    (base : Nat) (v : Value) (L : List TSpell) (hs : a.eval s = v) (hown : OwnR 160 4 cSpell w base v L) (b c : Nat) (y : TSpell) (hx : a.eval x = .slice (some ⟨b, 0, none⟩) 1 c) (hc : ∀ j u, (cSpell y)[j]? = some u → w.cell? ⟨b, j, none⟩ = some u)
    (hn : L.length ≤ 1000000000 - 1) (hb : b < w.heap.size) (hbase : base ≤ w.heap.size)
    (h : ∀ v' w', OwnR 160 4 cSpell w' base v' (L ++ [y]) → w.grownBy w' v.ownBlock → From w v v' → K (a.put o.dst v') w') :
    if Region.wanted o (yielded ops a.tmps) = true then Oper.wp Tryz.prog o a w K Q else E :=
  step_of hg (wp_oneSpell w s x ho base v L hs hown b c y hx hc hn hb hbase h)

theorem wp_allEvent (w : World) {o : Oper} {a : Act} {K : Act → World → Prop} {Q : Exit → Act → World → Prop} (s x : Operand)
    (ho : o.op = .call { callee := .builtin .append, args := #[s, x], argTypes := #[34, 34] })
    (base : Nat) (v : Value) (L : List TEvent) (hs : a.eval s = v) (hown : OwnR 95 2 cEvent w base v L) (A : Option Addr) (c : Nat) (M : List TEvent) (hx : a.eval x = .slice A M.length c) (hM : RecAt 2 cEvent w A M) (hA : A = none → c = 0)
    (hn : L.length + M.length ≤ 1000000000) (hbase : base ≤ w.heap.size)
    (h : ∀ v' w', OwnR 95 2 cEvent w' base v' (L ++ M) → w.grownBy w' v.ownBlock → From w v v' → K (a.put o.dst v') w') : o.wp Tryz.prog a w K Q :=
  wp_fineR w s x 34 ho (.agg #[.int .i64 0, .int .i64 0]) 16 Tryz.underlying34 Tryz.infoEvent rfl (by decide) cEvent_len cEvent_one base v L hs hown A c M hx hM hA hn (by decide) hbase h
theorem step_allEvent (w : World) {ops : Array Oper} {o : Oper} {a : Act} {K : Act → World → Prop} {Q : Exit → Act → World → Prop} {E : Prop} (hg : o.guard = none) (s x : Operand)
    (ho : o.op = .call { callee := .builtin .append, args := #[s, x], argTypes := #[34, 34] })
    (base : Nat) (v : Value) (L : List TEvent) (hs : a.eval s = v) (hown : OwnR 95 2 cEvent w base v L) (A : Option Addr) (c : Nat) (M : List TEvent) (hx : a.eval x = .slice A M.length c) (hM : RecAt 2 cEvent w A M) (hA : A = none → c = 0)
    (hn : L.length + M.length ≤ 1000000000) (hbase : base ≤ w.heap.size)
    (h : ∀ v' w', OwnR 95 2 cEvent w' base v' (L ++ M) → w.grownBy w' v.ownBlock → From w v v' → K (a.put o.dst v') w') :
    if Region.wanted o (yielded ops a.tmps) = true then Oper.wp Tryz.prog o a w K Q else E :=
  step_of hg (wp_allEvent w s x ho base v L hs hown A c M hx hM hA hn hbase h)
/-- append of one record out of a new block. -/
theorem wp_oneEvent (w : World) {o : Oper} {a : Act} {K : Act → World → Prop} {Q : Exit → Act → World → Prop} (s x : Operand)
    (ho : o.op = .call { callee := .builtin .append, args := #[s, x], argTypes := #[34, 34] })
    (base : Nat) (v : Value) (L : List TEvent) (hs : a.eval s = v) (hown : OwnR 95 2 cEvent w base v L) (b c : Nat) (y : TEvent) (hx : a.eval x = .slice (some ⟨b, 0, none⟩) 1 c) (hc : ∀ j u, (cEvent y)[j]? = some u → w.cell? ⟨b, j, none⟩ = some u)
    (hn : L.length ≤ 1000000000 - 1) (hb : b < w.heap.size) (hbase : base ≤ w.heap.size)
    (h : ∀ v' w', OwnR 95 2 cEvent w' base v' (L ++ [y]) → w.grownBy w' v.ownBlock → From w v v' → K (a.put o.dst v') w') : o.wp Tryz.prog a w K Q := by
  refine wp_allEvent w s x ho base v L hs hown (some ⟨b, 0, none⟩) c [y] hx (.inr ⟨b, 0, rfl, hb, fun k z hk j u hu => ?_⟩) (by simp) (by simp; omega) hbase h
  match k, hk with
  | 0, hk => simp at hk; subst hk; simpa using hc j u hu
theorem step_oneEvent (w : World) {ops : Array Oper} {o : Oper} {a : Act} {K : Act → World → Prop} {Q : Exit → Act → World → Prop} {E : Prop} (hg : o.guard = none) (s x : Operand)
    (ho : o.op = .call { callee := .builtin .append, args := #[s, x], argTypes := #[34, 34] })
    (base : Nat) (v : Value) (L : List TEvent) (hs : a.eval s = v) (hown : OwnR 95 2 cEvent w base v L) (b c : Nat) (y : TEvent) (hx : a.eval x = .slice (some ⟨b, 0, none⟩) 1 c) (hc : ∀ j u, (cEvent y)[j]? = some u → w.cell? ⟨b, j, none⟩ = some u)
    (hn : L.length ≤ 1000000000 - 1) (hb : b < w.heap.size) (hbase : base ≤ w.heap.size)
    (h : ∀ v' w', OwnR 95 2 cEvent w' base v' (L ++ [y]) → w.grownBy w' v.ownBlock → From w v v' → K (a.put o.dst v') w') :
    if Region.wanted o (yielded ops a.tmps) = true then Oper.wp Tryz.prog o a w K Q else E :=
  step_of hg (wp_oneEvent w s x ho base v L hs hown b c y hx hc hn hb hbase h)

theorem wp_allNode (w : World) {o : Oper} {a : Act} {K : Act → World → Prop} {Q : Exit → Act → World → Prop} (s x : Operand)
    (ho : o.op = .call { callee := .builtin .append, args := #[s, x], argTypes := #[112, 112] })
    (base : Nat) (v : Value) (L : List TNode) (hs : a.eval s = v) (hown : OwnR 191 6 cNode w base v L) (A : Option Addr) (c : Nat) (M : List TNode) (hx : a.eval x = .slice A M.length c) (hM : RecAt 6 cNode w A M) (hA : A = none → c = 0)
    (hn : L.length + M.length ≤ 1000000000) (hbase : base ≤ w.heap.size)
    (h : ∀ v' w', OwnR 191 6 cNode w' base v' (L ++ M) → w.grownBy w' v.ownBlock → From w v v' → K (a.put o.dst v') w') : o.wp Tryz.prog a w K Q :=
  wp_fineR w s x 112 ho (.agg #[.int .i64 0, .int .i64 0, .int .i64 0, .int .i64 0, .int .i64 0, .int .i64 0]) 48 Tryz.underlying112 Tryz.infoNode rfl (by decide) cNode_len cNode_one base v L hs hown A c M hx hM hA hn (by decide) hbase h
theorem step_allNode (w : World) {ops : Array Oper} {o : Oper} {a : Act} {K : Act → World → Prop} {Q : Exit → Act → World → Prop} {E : Prop} (hg : o.guard = none) (s x : Operand)
    (ho : o.op = .call { callee := .builtin .append, args := #[s, x], argTypes := #[112, 112] })
    (base : Nat) (v : Value) (L : List TNode) (hs : a.eval s = v) (hown : OwnR 191 6 cNode w base v L) (A : Option Addr) (c : Nat) (M : List TNode) (hx : a.eval x = .slice A M.length c) (hM : RecAt 6 cNode w A M) (hA : A = none → c = 0)
    (hn : L.length + M.length ≤ 1000000000) (hbase : base ≤ w.heap.size)
    (h : ∀ v' w', OwnR 191 6 cNode w' base v' (L ++ M) → w.grownBy w' v.ownBlock → From w v v' → K (a.put o.dst v') w') :
    if Region.wanted o (yielded ops a.tmps) = true then Oper.wp Tryz.prog o a w K Q else E :=
  step_of hg (wp_allNode w s x ho base v L hs hown A c M hx hM hA hn hbase h)
/-- append of one record out of a new block. -/
theorem wp_oneNode (w : World) {o : Oper} {a : Act} {K : Act → World → Prop} {Q : Exit → Act → World → Prop} (s x : Operand)
    (ho : o.op = .call { callee := .builtin .append, args := #[s, x], argTypes := #[112, 112] })
    (base : Nat) (v : Value) (L : List TNode) (hs : a.eval s = v) (hown : OwnR 191 6 cNode w base v L) (b c : Nat) (y : TNode) (hx : a.eval x = .slice (some ⟨b, 0, none⟩) 1 c) (hc : ∀ j u, (cNode y)[j]? = some u → w.cell? ⟨b, j, none⟩ = some u)
    (hn : L.length ≤ 1000000000 - 1) (hb : b < w.heap.size) (hbase : base ≤ w.heap.size)
    (h : ∀ v' w', OwnR 191 6 cNode w' base v' (L ++ [y]) → w.grownBy w' v.ownBlock → From w v v' → K (a.put o.dst v') w') : o.wp Tryz.prog a w K Q := by
  refine wp_allNode w s x ho base v L hs hown (some ⟨b, 0, none⟩) c [y] hx (.inr ⟨b, 0, rfl, hb, fun k z hk j u hu => ?_⟩) (by simp) (by simp; omega) hbase h
  match k, hk with
  | 0, hk => simp at hk; subst hk; simpa using hc j u hu
theorem step_oneNode (w : World) {ops : Array Oper} {o : Oper} {a : Act} {K : Act → World → Prop} {Q : Exit → Act → World → Prop} {E : Prop} (hg : o.guard = none) (s x : Operand)
    (ho : o.op = .call { callee := .builtin .append, args := #[s, x], argTypes := #[112, 112] })
    (base : Nat) (v : Value) (L : List TNode) (hs : a.eval s = v) (hown : OwnR 191 6 cNode w base v L) (b c : Nat) (y : TNode) (hx : a.eval x = .slice (some ⟨b, 0, none⟩) 1 c) (hc : ∀ j u, (cNode y)[j]? = some u → w.cell? ⟨b, j, none⟩ = some u)
    (hn : L.length ≤ 1000000000 - 1) (hb : b < w.heap.size) (hbase : base ≤ w.heap.size)
    (h : ∀ v' w', OwnR 191 6 cNode w' base v' (L ++ [y]) → w.grownBy w' v.ownBlock → From w v v' → K (a.put o.dst v') w') :
    if Region.wanted o (yielded ops a.tmps) = true then Oper.wp Tryz.prog o a w K Q else E :=
  step_of hg (wp_oneNode w s x ho base v L hs hown b c y hx hc hn hb hbase h)

theorem wp_allRule (w : World) {o : Oper} {a : Act} {K : Act → World → Prop} {Q : Exit → Act → World → Prop} (s x : Operand)
    (ho : o.op = .call { callee := .builtin .append, args := #[s, x], argTypes := #[24, 24] })
    (base : Nat) (v : Value) (L : List MRule) (hs : a.eval s = v) (hown : OwnR 114 7 cRule w base v L) (A : Option Addr) (c : Nat) (M : List MRule) (hx : a.eval x = .slice A M.length c) (hM : RecAt 7 cRule w A M) (hA : A = none → c = 0)
    (hn : L.length + M.length ≤ 1000000000) (hbase : base ≤ w.heap.size)
    (h : ∀ v' w', OwnR 114 7 cRule w' base v' (L ++ M) → w.grownBy w' v.ownBlock → From w v v' → K (a.put o.dst v') w') : o.wp Tryz.prog a w K Q :=
  wp_fineR w s x 24 ho (.agg #[.int .i64 0, .int .i64 0, .int .i64 0, .int .i64 0, .int .i64 0, .int .i64 0, .slice none 0 0]) 72 Tryz.underlying24 Tryz.infoRule rfl (by decide) cRule_len cRule_one base v L hs hown A c M hx hM hA hn (by decide) hbase h
theorem step_allRule (w : World) {ops : Array Oper} {o : Oper} {a : Act} {K : Act → World → Prop} {Q : Exit → Act → World → Prop} {E : Prop} (hg : o.guard = none) (s x : Operand)
    (ho : o.op = .call { callee := .builtin .append, args := #[s, x], argTypes := #[24, 24] })
    (base : Nat) (v : Value) (L : List MRule) (hs : a.eval s = v) (hown : OwnR 114 7 cRule w base v L) (A : Option Addr) (c : Nat) (M : List MRule) (hx : a.eval x = .slice A M.length c) (hM : RecAt 7 cRule w A M) (hA : A = none → c = 0)
    (hn : L.length + M.length ≤ 1000000000) (hbase : base ≤ w.heap.size)
    (h : ∀ v' w', OwnR 114 7 cRule w' base v' (L ++ M) → w.grownBy w' v.ownBlock → From w v v' → K (a.put o.dst v') w') :
    if Region.wanted o (yielded ops a.tmps) = true then Oper.wp Tryz.prog o a w K Q else E :=
  step_of hg (wp_allRule w s x ho base v L hs hown A c M hx hM hA hn hbase h)
/-- append of one record out of a new block. -/
theorem wp_oneRule (w : World) {o : Oper} {a : Act} {K : Act → World → Prop} {Q : Exit → Act → World → Prop} (s x : Operand)
    (ho : o.op = .call { callee := .builtin .append, args := #[s, x], argTypes := #[24, 24] })
    (base : Nat) (v : Value) (L : List MRule) (hs : a.eval s = v) (hown : OwnR 114 7 cRule w base v L) (b c : Nat) (y : MRule) (hx : a.eval x = .slice (some ⟨b, 0, none⟩) 1 c) (hc : ∀ j u, (cRule y)[j]? = some u → w.cell? ⟨b, j, none⟩ = some u)
    (hn : L.length ≤ 1000000000 - 1) (hb : b < w.heap.size) (hbase : base ≤ w.heap.size)
    (h : ∀ v' w', OwnR 114 7 cRule w' base v' (L ++ [y]) → w.grownBy w' v.ownBlock → From w v v' → K (a.put o.dst v') w') : o.wp Tryz.prog a w K Q := by
  refine wp_allRule w s x ho base v L hs hown (some ⟨b, 0, none⟩) c [y] hx (.inr ⟨b, 0, rfl, hb, fun k z hk j u hu => ?_⟩) (by simp) (by simp; omega) hbase h
  match k, hk with
  | 0, hk => simp at hk; subst hk; simpa using hc j u hu
theorem step_oneRule (w : World) {ops : Array Oper} {o : Oper} {a : Act} {K : Act → World → Prop} {Q : Exit → Act → World → Prop} {E : Prop} (hg : o.guard = none) (s x : Operand)
    (ho : o.op = .call { callee := .builtin .append, args := #[s, x], argTypes := #[24, 24] })
    (base : Nat) (v : Value) (L : List MRule) (hs : a.eval s = v) (hown : OwnR 114 7 cRule w base v L) (b c : Nat) (y : MRule) (hx : a.eval x = .slice (some ⟨b, 0, none⟩) 1 c) (hc : ∀ j u, (cRule y)[j]? = some u → w.cell? ⟨b, j, none⟩ = some u)
    (hn : L.length ≤ 1000000000 - 1) (hb : b < w.heap.size) (hbase : base ≤ w.heap.size)
    (h : ∀ v' w', OwnR 114 7 cRule w' base v' (L ++ [y]) → w.grownBy w' v.ownBlock → From w v v' → K (a.put o.dst v') w') :
    if Region.wanted o (yielded ops a.tmps) = true then Oper.wp Tryz.prog o a w K Q else E :=
  step_of hg (wp_oneRule w s x ho base v L hs hown b c y hx hc hn hb hbase h)
end Go.Proofs.YtjfmknhnplefnaaGreat
