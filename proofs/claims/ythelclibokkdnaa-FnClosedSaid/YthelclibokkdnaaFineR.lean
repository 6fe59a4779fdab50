/-
  append of a list of records to an own row.
-/
import Derived.Test.YthelclibokkdnaaFine
import Derived.Test.YthelclibokkdnaaCut
namespace Go.Proofs.Ythelclibokkdnaa
open Go.RowKit

theorem wp_fineR {T : Type} {e : TypeId} {s : Nat} {cells : T → List Value} {P : Program} (w : World) {o : Oper} {a : Act} {K : Act → World → Prop} {Q : Exit → Act → World → Prop} (sx x : Operand) (t : TypeId)
    (ho : o.op = .call { callee := .builtin .append, args := #[sx, x], argTypes := #[t, t] }) (z : Value) (bytes : Nat) (ht : P.underlying t = some (.slice e))
    (hinfo : (P.info? e).map (fun i => (i.zero, i.size, i.bytes)) = some (some z, s, bytes)) (hzs : z.cells.size = s) (hs0 : 0 < s) (hl : ∀ x, (cells x).length = s) (h1 : ∀ x, ∀ u ∈ cells x, u.oneCell' = true)
    (base : Nat) (v : Value) (L : List T) (hs : a.eval sx = v) (hown : OwnR e s cells w base v L) (A : Option Addr) (c : Nat) (M : List T) (hx : a.eval x = .slice A M.length c)
    (hM : RecAt s cells w A M) (hA : A = none → c = 0) (hn : L.length + M.length ≤ 1000000000) (hby : bytes ≤ 1000) (hbase : base ≤ w.heap.size)
    (h : ∀ v' w', OwnR e s cells w' base v' (L ++ M) → w.grownBy w' v.ownBlock → From w v v' → K (a.put o.dst v') w') :
    o.wp P a w K Q := by
  refine wp_fine w sx x t ho e z s bytes ht hinfo hzs hs0 base v L.length _ hs hown A M.length c (M.flatMap cells) hx (flat_length hl M) ?_ ?_ hn hby hbase ?_
  · rcases A with _ | ad
    · refine .inl ⟨rfl, ?_, hA rfl⟩
      rcases hM with hM | ⟨b, off, hA', _⟩
      · simp [hM]
      · cases hA'
    · refine .inr ⟨ad, rfl, fun j u hu => ?_⟩
      obtain ⟨k, i, y, hk, hi', rfl⟩ := flat_inv hl hu
      rcases hM with hM | ⟨b, off, hA, hb, hc⟩
      · subst hM; simp at hk
      · injection hA with hA
        subst hA
        rw [Addr.add_lit, ← Nat.add_assoc]
        exact hc k y hk i u hi'
  · intro u hu
    obtain ⟨y, _, hy⟩ := List.mem_flatMap.1 hu
    exact h1 y u hy
  · intro v' w' h2 h3 h4
    refine h v' w' ?_ h3 h4
    show World.ownsRow _ _ _ _ _ _ _
    rw [List.length_append, List.flatMap_append]
    exact h2
end Go.Proofs.Ythelclibokkdnaa
