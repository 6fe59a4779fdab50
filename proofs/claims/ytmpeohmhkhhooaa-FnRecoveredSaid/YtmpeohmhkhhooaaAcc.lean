/-
  A row that was laid out empty before another call, and then grows: what that call handed back is spared.
-/
import Derived.Test.YtmpeohmhkhhooaaIntS
import Derived.Test.YtmpeohmhkhhooaaRec
import Derived.ArgAppend
namespace Go.Proofs.Ytmpeohmhkhhooaa
open Go.RowKit

/-- A row of the call's own from block base on; if anything lies in it, from block base2 on. -/
def Acc (e : TypeId) (s : Nat) (w : World) (base base2 : Nat) (v : Value) (n : Nat) (xs : List Value) : Prop :=
  w.ownsRow base e s v n xs ∧ (w.ownsRow base2 e s v n xs ∨ (n = 0 ∧ xs = [] ∧ ∃ ad, v = .slice (some ad) 0 0))
theorem Acc.same {e : TypeId} {s : Nat} {a b : World} {base base2 : Nat} {v : Value} {n : Nat} {xs : List Value} (h : Acc e s a base base2 v n xs) (hs : Same a b) : Acc e s b base base2 v n xs :=
  ⟨hs.owns h.1, h.2.elim (fun h => .inl (hs.owns h)) .inr⟩
theorem Acc.alloc {e : TypeId} {s : Nat} {a : World} {base base2 : Nat} {v : Value} {n : Nat} {xs : List Value} (h : Acc e s a base base2 v n xs) (o : Obj) : Acc e s (a.alloc o) base base2 v n xs := h.same ((Same.refl a).alloc o)

/-- append of one element. -/
theorem wp_acc {P : Program} (w : World) {o : Oper} {a : Act} {K : Act → World → Prop} {Q : Exit → Act → World → Prop} (s x : Operand) (t : TypeId)
    (ho : o.op = .call { callee := .builtin .append, args := #[s, x], argTypes := #[t, t] }) (e : TypeId) (z : Value) (size bytes : Nat) (ht : P.underlying t = some (.slice e))
    (hinfo : (P.info? e).map (fun i => (i.zero, i.size, i.bytes)) = some (some z, size, bytes)) (hzs : z.cells.size = size) (hsz : 0 < size)
    (base base2 : Nat) (v : Value) (n : Nat) (xs : List Value) (hs : a.eval s = v) (hown : Acc e size w base base2 v n xs) (b c : Nat) (news : List Value) (hx : a.eval x = .slice (some ⟨b, 0, none⟩) 1 c)
    (hl : news.length = size) (hc : ∀ j u, news[j]? = some u → w.cell? ⟨b, j, none⟩ = some u) (h1 : ∀ u ∈ news, u.oneCell' = true) (hn : n ≤ 1000000000) (hby : bytes ≤ 1000) (hb : base ≤ base2) (hbase : base2 ≤ w.heap.size)
    (h : ∀ v' w', Acc e size w' base base2 v' (n + 1) (xs ++ news) → Upd base2 w.heap.size w w' → K (a.put o.dst v') w') :
    o.wp P a w K Q := by
  rcases hown.2 with hown | ⟨rfl, rfl, ad, rfl⟩
  · exact wp_app w s x t ho e z size bytes ht hinfo hzs hsz base2 v n xs hs hown b c news hx hl hc h1 hn hby hbase fun v' w' h1 h2 => h v' w' ⟨owns_base h1 hb, .inl h1⟩ h2
  · obtain ⟨i0, hi, hz0, hz1, hz2⟩ := info_parts hinfo
    obtain ⟨v', w', hrun, r1, r2⟩ := run_append_arg_grows (P := P) w t o.type e i0 z size bytes ht hi hz0 hz1 hz2 hzs hsz ad 0 0 [] (by simp) (by simp) ⟨b, 0, none⟩ 1 c news (by omega) (fun j u hj => by rw [Addr.add_lit]; simpa using hc j u hj) (by omega) (by unfold maxLen; omega) (by omega)
    have h' := h v' w' ⟨owns_base r1 (by omega), .inl (owns_base r1 hbase)⟩ ⟨r2.os, r2.tape, r2.output, r2.size, fun k hk _ => r2.block k hk (by simp)⟩
    unfold Oper.wp
    simp [execOp, ho, resolve, invoke, builtin, hs, hx, hrun, Result.andThen]
    exact h'

def AccI (w : World) (base base2 : Nat) (v : Value) (zs : List Int) : Prop := Acc 3 1 w base base2 v zs.length (zs.map (Value.int .i64))
theorem AccI.own {w : World} {base base2 : Nat} {v : Value} {zs : List Int} (h : AccI w base base2 v zs) : OwnI w base v zs := h.1
theorem AccI.same {a b : World} {base base2 : Nat} {v : Value} {zs : List Int} (h : AccI a base base2 v zs) (hs : Same a b) : AccI b base base2 v zs := Acc.same h hs
theorem AccI.alloc {a : World} {base base2 : Nat} {v : Value} {zs : List Int} (h : AccI a base base2 v zs) (o : Obj) : AccI (a.alloc o) base base2 v zs := Acc.alloc h o
theorem AccI.empty {w : World} {base base2 : Nat} {ad : Addr} (h : OwnI w base (.slice (some ad) 0 0) []) : AccI w base base2 (.slice (some ad) 0 0) [] := ⟨h, .inr ⟨rfl, rfl, ad, rfl⟩⟩
theorem wp_accI (w : World) {o : Oper} {a : Act} {K : Act → World → Prop} {Q : Exit → Act → World → Prop} (s x : Operand)
    (ho : o.op = .call { callee := .builtin .append, args := #[s, x], argTypes := #[29, 29] })
    (base base2 : Nat) (v : Value) (zs : List Int) (hs : a.eval s = v) (hown : AccI w base base2 v zs) (b c : Nat) (y : Int) (hx : a.eval x = .slice (some ⟨b, 0, none⟩) 1 c)
    (hc : w.cell? ⟨b, 0, none⟩ = some (.int .i64 y)) (hn : zs.length ≤ 1000000000) (hb : base ≤ base2) (hbase : base2 ≤ w.heap.size)
    (h : ∀ v' w', AccI w' base base2 v' (zs ++ [y]) → Upd base2 w.heap.size w w' → K (a.put o.dst v') w') : o.wp Try.prog a w K Q := by
  refine wp_acc w s x 29 ho 3 (.int .i64 0) 1 8 Try.underlying29 Try.infoInt rfl (by decide) base base2 v zs.length _ hs hown b c [.int .i64 y] hx rfl ?_ ?_ hn (by decide) hb hbase ?_
  · intro j u hu
    match j, hu with
    | 0, hu => simp at hu; subst hu; exact hc
  · intro u hu; simp at hu; subst hu; rfl
  · intro v' w' h1 h2
    refine h v' w' ?_ h2
    show Acc _ _ _ _ _ _ _ _
    rw [List.length_append, List.map_append]
    exact h1
theorem appAccI (w : World) {ops : Array Oper} {rest : List Oper} {o : Oper} {a : Act} {Q : Exit → Act → World → Prop} (hg : o.guard = none) (s x : Operand)
    (ho : o.op = .call { callee := .builtin .append, args := #[s, x], argTypes := #[29, 29] })
    (base base2 : Nat) (v : Value) (zs : List Int) (hs : a.eval s = v) (hown : AccI w base base2 v zs) (b c : Nat) (y : Int) (hx : a.eval x = .slice (some ⟨b, 0, none⟩) 1 c)
    (hc : w.cell? ⟨b, 0, none⟩ = some (.int .i64 y)) (hn : zs.length ≤ 1000000000) (hb : base ≤ base2) (hbase : base2 ≤ w.heap.size)
    (h : ∀ v' w', AccI w' base base2 v' (zs ++ [y]) → Upd base2 w.heap.size w w' → wpList Try.prog ops Q rest (a.put o.dst v') w') :
    wpList Try.prog ops Q (o :: rest) a w :=
  wpList_of hg fun _ hK => wp_accI w s x ho base base2 v zs hs hown b c y hx hc hn hb hbase fun v' w' h1 h2 => hK _ _ (h v' w' h1 h2)
theorem stepAccI (w : World) {ops : Array Oper} {o : Oper} {a : Act} {K : Act → World → Prop} {Q : Exit → Act → World → Prop} {E : Prop} (hg : o.guard = none) (s x : Operand)
    (ho : o.op = .call { callee := .builtin .append, args := #[s, x], argTypes := #[29, 29] })
    (base base2 : Nat) (v : Value) (zs : List Int) (hs : a.eval s = v) (hown : AccI w base base2 v zs) (b c : Nat) (y : Int) (hx : a.eval x = .slice (some ⟨b, 0, none⟩) 1 c)
    (hc : w.cell? ⟨b, 0, none⟩ = some (.int .i64 y)) (hn : zs.length ≤ 1000000000) (hb : base ≤ base2) (hbase : base2 ≤ w.heap.size)
    (h : ∀ v' w', AccI w' base base2 v' (zs ++ [y]) → Upd base2 w.heap.size w w' → K (a.put o.dst v') w') :
    if Region.wanted o (yielded ops a.tmps) = true then Oper.wp Try.prog o a w K Q else E :=
  step_of hg (wp_accI w s x ho base base2 v zs hs hown b c y hx hc hn hb hbase h)
end Go.Proofs.Ytmpeohmhkhhooaa
