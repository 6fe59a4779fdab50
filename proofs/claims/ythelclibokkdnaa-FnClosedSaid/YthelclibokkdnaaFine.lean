/-
  Rows that lie side by side: an append touches its own row's block alone, and what it hands back lies there or in a new block.
-/
import Derived.Test.YthelclibokkdnaaSep
import Derived.Test.YthelclibokkdnaaBox
import Derived.Test.YthelclibokkdnaaRec
import Derived.ArgAppend
import Derived.Deep.DeepAppendRoom
import Derived.Laws.AppendOwnNone
namespace Go.Proofs.Ythelclibokkdnaa
open Go.RowKit

/-- v' lies where v lay, or in a block that is new in a. -/
def From (a : World) (v v' : Value) : Prop := ∀ g, v'.ownBlock = some g → v.ownBlock = some g ∨ a.heap.size ≤ g
theorem From.refl (a : World) (v : Value) : From a v v := fun _ h => .inl h
/-- append of many elements; the list that is appended may be nil. -/
theorem run_fine {P : Program} (w : World) (base : Nat) (t ty e : TypeId) (i : TypeInfo) (z : Value) (size bytes : Nat) (ht : P.underlying t = some (.slice e)) (hi : P.info? e = some i) (hz : i.zero = some z)
    (hsize : i.size = size) (hby : i.bytes = bytes) (hzs : z.cells.size = size) (hsz : 0 < size)
    (v : Value) (n : Nat) (xs : List Value) (hown : w.ownsRow base e size v n xs)
    (A : Option Addr) (m c : Nat) (news : List Value) (hl : news.length = m * size) (hnews : (A = none ∧ m = 0 ∧ c = 0) ∨ ∃ a, A = some a ∧ ∀ j u, news[j]? = some u → w.cell? (a.add j) = some u) (h1 : ∀ u ∈ news, u.oneCell' = true)
    (h63 : n + m ≤ maxLen) (hbytes : (n + m) * bytes ≤ 140737488355328) (hbase : base ≤ w.heap.size) :
    ∃ v' w', (Builtin.append_ #[t, t] ty #[v, .slice A m c]).run P w = .ok v' w' ∧ w'.ownsRow base e size v' (n + m) (xs ++ news) ∧ w.grownBy w' v.ownBlock ∧ From w v v' := by
  rcases hnews with ⟨rfl, rfl, rfl⟩ | ⟨a, rfl, hnews⟩
  · have hn : news = [] := List.eq_nil_of_length_eq_zero (by simpa using hl)
    subst hn
    refine ⟨v, w, run_append_owned_none (P := P) (w := w) base t ty e i size ht hi v n xs hown, by simpa using hown, ⟨rfl, rfl, rfl, Nat.le_refl _, fun _ _ _ => rfl⟩, From.refl _ _⟩
  · rcases hown.2 with ⟨rfl, rfl⟩ | ⟨g, cap, cur, rfl, hbg, hg, hnc, hcm, hcs, htake⟩
    · have hx : xs = [] := List.eq_nil_of_length_eq_zero (by simpa using hown.1)
      subst hx
      obtain ⟨v', w', h, h2, h3, h4⟩ := run_append_own (P := P) w w.heap.size t ty e i z size bytes ht hi hz hsize hby hzs hsz (.slice none 0 0) 0 [] (World.ownsRow_nil w _ e size) a m c news hl hnews h1 h63 hbytes (Nat.le_refl _)
      exact ⟨v', w', h, owns_base h2 hbase, h3, fun g hg => .inr (h2.lt g hg).1⟩
    · by_cases hroom : n + m ≤ cap
      · obtain ⟨w', h, h2, h3⟩ := run_append_own_spare (P := P) w base t ty e i size ht hi hsize g n cap xs hown a m c news hl hnews h1 hroom
        exact ⟨_, w', h, h2, h3, fun g' hg' => .inl hg'⟩
      · have hcell : ∀ j u, xs[j]? = some u → w.cell? ((⟨g, 0, none⟩ : Addr).add j) = some u := by
          intro j u hj
          rw [Addr.add_lit, cell_of_row w g _ _ _ (0, 0) hg]
          rw [← htake] at hj
          have hj2 := (List.getElem?_eq_some_iff.1 hj).1
          rw [List.getElem?_take_of_lt (by simp at hj2; omega)] at hj
          simpa using hj
        obtain ⟨v', w', h, h2, h3⟩ := run_append_arg_grows (P := P) w t ty e i z size bytes ht hi hz hsize hby hzs hsz ⟨g, 0, none⟩ n cap xs hown.1 hcell a m c news hl hnews (by omega) h63 hbytes
        exact ⟨v', w', h, owns_base h2 hbase, ⟨h3.os, h3.tape, h3.output, h3.size, fun k hk _ => h3.block k hk (by simp)⟩, fun g' hg' => .inr (h2.lt g' hg').1⟩
theorem wp_fine {P : Program} (w : World) {o : Oper} {a : Act} {K : Act → World → Prop} {Q : Exit → Act → World → Prop} (s x : Operand) (t : TypeId)
    (ho : o.op = .call { callee := .builtin .append, args := #[s, x], argTypes := #[t, t] }) (e : TypeId) (z : Value) (size bytes : Nat) (ht : P.underlying t = some (.slice e))
    (hinfo : (P.info? e).map (fun i => (i.zero, i.size, i.bytes)) = some (some z, size, bytes)) (hzs : z.cells.size = size) (hsz : 0 < size)
    (base : Nat) (v : Value) (n : Nat) (xs : List Value) (hs : a.eval s = v) (hown : w.ownsRow base e size v n xs) (A : Option Addr) (m c : Nat) (news : List Value) (hx : a.eval x = .slice A m c)
    (hl : news.length = m * size) (hnews : (A = none ∧ m = 0 ∧ c = 0) ∨ ∃ a, A = some a ∧ ∀ j u, news[j]? = some u → w.cell? (a.add j) = some u) (h1 : ∀ u ∈ news, u.oneCell' = true) (hn : n + m ≤ 1000000000) (hby : bytes ≤ 1000) (hbase : base ≤ w.heap.size)
    (h : ∀ v' w', w'.ownsRow base e size v' (n + m) (xs ++ news) → w.grownBy w' v.ownBlock → From w v v' → K (a.put o.dst v') w') :
    o.wp P a w K Q := by
  obtain ⟨i0, hi, hz0, hz1, hz2⟩ := info_parts hinfo
  have hm : (n + m) * bytes ≤ 1000000000 * 1000 := Nat.mul_le_mul hn hby
  obtain ⟨v', w', hr, h2, h3, h4⟩ := run_fine (P := P) w base t o.type e i0 z size bytes ht hi hz0 hz1 hz2 hzs hsz v n xs hown A m c news hl hnews h1 (by unfold maxLen; omega) (by omega) hbase
  unfold Oper.wp execOp
  simp only [ho, resolve, invoke, builtin, Sem.run_bind, Sem.run_pure, Result.andThen_ok, List.map_toArray, List.map_cons, List.map_nil, hs, hx, hr]
  exact h v' w' h2 h3 h4

/-! What is kept -/
section
variable {a b : World} {u v : Value}
theorem grown_owns {e : TypeId} {s n base : Nat} {xs : List Value} (hg : a.grownBy b v.ownBlock) (hu : a.ownsRow base e s u n xs) (hs : Sep v u) : b.ownsRow base e s u n xs := by
  refine ⟨hu.1, ?_⟩
  rcases hu.2 with hn | ⟨g, cap, cur, rfl, hb, hgg, rest⟩
  · exact .inl hn
  · refine .inr ⟨g, cap, cur, rfl, hb, ?_, rest⟩
    rw [hg.block g (Array.getElem?_eq_some_iff.1 hgg).1 (fun e' => hs g e'.symm rfl)]
    exact hgg
theorem grown_box {k : Nat} {t : TypeId} {vs : List Value} (hg : a.grownBy b v.ownBlock) (h : BoxAt a k t vs) (hk : v.ownBlock ≠ some k) : BoxAt b k t vs := (hg.block k h.lt (fun e => hk e.symm)).trans h
theorem grown_same {w : World} (hs : Same w a) (hg : a.grownBy b v.ownBlock) (hv : ∀ g, v.ownBlock = some g → w.heap.size ≤ g) : Same w b := hs.grown hg hv
theorem owns_new {e : TypeId} {s n base : Nat} {xs : List Value} (h : a.ownsRow base e s v n xs) : ∀ g, v.ownBlock = some g → base ≤ g ∧ g < a.heap.size := h.lt
/-- Another row is apart from the new one too. -/
theorem Sep.from_ {e : TypeId} {s n base : Nat} {xs : List Value} {v' : Value} (hs : Sep v u) (hf : From a v v') (hu : a.ownsRow base e s u n xs) : Sep v' u := fun g h1 h2 => by
  rcases hf g h1 with h | h
  · exact hs g h h2
  · have := (hu.lt g h2).2; omega
/-- A row that is new is apart from one that lay before. -/
theorem Sep.new {e e' : TypeId} {s s' n n' base base' : Nat} {xs xs' : List Value} (hu : a.ownsRow base e s u n xs) (hv : b.ownsRow base' e' s' v n' xs') (h : a.heap.size ≤ base') : Sep u v := fun g h1 h2 => by
  have := (hu.lt g h1).2
  have := (hv.lt g h2).1
  omega
theorem Sep.box {e : TypeId} {s n base k : Nat} {xs : List Value} (hv : a.ownsRow base e s v n xs) (h : k < base) : v.ownBlock ≠ some k := fun e' => by have := (hv.lt k e').1; omega
end
end Go.Proofs.Ythelclibokkdnaa
