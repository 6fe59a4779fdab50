/- Joined of Sep, Fine, Cut, FineR: what is proved stands ahead of each part. -/
import Derived.Test.YtjfmknhnplefnaaGreatZMem
import Derived.Test.YtjfmknhnplefnaaGreatZRec
import Derived.ArgAppend
import Derived.Deep.DeepAppendRoom
import Derived.Laws.AppendOwnNone
import Derived.Laws.IdiomCopy
import Derived.Lib.SliceRun

section
/-
  Two rows in blocks of their own.
-/
namespace Go.Proofs.YtjfmknhnplefnaaGreat
open Go.RowKit

/-- Two rows in blocks of their own. -/
def Sep (u v : Value) : Prop := ∀ g, u.ownBlock = some g → v.ownBlock ≠ some g
theorem Sep.symm {u v : Value} (h : Sep u v) : Sep v u := fun g h1 h2 => h g h2 h1
end Go.Proofs.YtjfmknhnplefnaaGreat
end

section
/-
  Rows that lie side by side: an append touches its own row's block alone, and what it hands back lies there or in a new block.
-/
namespace Go.Proofs.YtjfmknhnplefnaaGreat
open Go.RowKit

/-- v' lies where v lay, or in a block that is new in a. -/
def From (a : World) (v v' : Value) : Prop := ∀ g, v'.ownBlock = some g → v.ownBlock = some g ∨ a.heap.size ≤ g
theorem From.refl (a : World) (v : Value) : From a v v := fun _ h => .inl h
/-- append of many elements; the list that is appended may be nil. -/
theorem run_fine {P : Program} (w : World) (base : Nat) (t ty e : TypeId) (i : TypeInfo) (z : Value) (size bytes : Nat) (ht : P.underlying t = some (.slice e)) (hi : P.info? e = some i) (hz : i.zero = some z)
    (hsize : i.size = size) (hby : i.bytes = bytes) (hzs : z.cells.size = size) (hsz : 0 < size)
    (v : Value) (n : Nat) (xs : List Value) (hown : w.ownsRow base e size v n xs)
    (A : Option Addr) (m c : Nat) (news : List Value) (hl : news.length = m * size) (hnews : (A = none ∧ m = 0 ∧ c = 0) ∨ ∃ a, A = some a ∧ ∀ j u, news[j]? = some u → w.cell? (a.add j) = some u) (h1 : ∀ u ∈ news, u.oneCell' = true)
    (h63 : n + m ≤ maxLen) (hbytes : (n + m) * bytes ≤ 140737488355328) (hbase : base ≤ w.heap.size) :
    ∃ v' w', (Builtin.append_ #[t, t] ty #[v, .slice A m c]).run P w = .ok v' w' ∧ w'.ownsRow base e size v' (n + m) (xs ++ news) ∧ w.grownBy w' v.ownBlock ∧ From w v v' := by
  rcases hnews with ⟨rfl, rfl, rfl⟩ | ⟨a, rfl, hnews⟩
  · have hn : news = [] := List.eq_nil_of_length_eq_zero (by simpa using hl)
    subst hn
    refine ⟨v, w, run_append_owned_none (P := P) (w := w) base t ty e i size ht hi v n xs hown, by simpa using hown, ⟨rfl, rfl, rfl, Nat.le_refl _, fun _ _ _ => rfl⟩, From.refl _ _⟩
  · rcases hown.2 with ⟨rfl, rfl⟩ | ⟨g, cap, cur, rfl, hbg, hg, hnc, hcm, hcs, htake⟩
    · have hx : xs = [] := List.eq_nil_of_length_eq_zero (by simpa using hown.1)
      subst hx
      obtain ⟨v', w', h, h2, h3, h4⟩ := run_append_own (P := P) w w.heap.size t ty e i z size bytes ht hi hz hsize hby hzs hsz (.slice none 0 0) 0 [] (World.ownsRow_nil w _ e size) a m c news hl hnews h1 h63 hbytes (Nat.le_refl _)
      exact ⟨v', w', h, owns_base h2 hbase, h3, fun g hg => .inr (h2.lt g hg).1⟩
    · by_cases hroom : n + m ≤ cap
      · obtain ⟨w', h, h2, h3⟩ := run_append_own_spare (P := P) w base t ty e i size ht hi hsize g n cap xs hown a m c news hl hnews h1 hroom
        exact ⟨_, w', h, h2, h3, fun g' hg' => .inl hg'⟩
      · have hcell : ∀ j u, xs[j]? = some u → w.cell? ((⟨g, 0, none⟩ : Addr).add j) = some u := by
          intro j u hj
          rw [Addr.add_lit, cell_of_row w g _ _ _ (0, 0) hg]
          rw [← htake] at hj
          have hj2 := (List.getElem?_eq_some_iff.1 hj).1
          rw [List.getElem?_take_of_lt (by simp at hj2; omega)] at hj
          simpa using hj
        obtain ⟨v', w', h, h2, h3⟩ := run_append_arg_grows (P := P) w t ty e i z size bytes ht hi hz hsize hby hzs hsz ⟨g, 0, none⟩ n cap xs hown.1 hcell a m c news hl hnews (by omega) h63 hbytes
        exact ⟨v', w', h, owns_base h2 hbase, ⟨h3.os, h3.tape, h3.output, h3.size, fun k hk _ => h3.block k hk (by simp)⟩, fun g' hg' => .inr (h2.lt g' hg').1⟩
theorem wp_fine {P : Program} (w : World) {o : Oper} {a : Act} {K : Act → World → Prop} {Q : Exit → Act → World → Prop} (s x : Operand) (t : TypeId)
    (ho : o.op = .call { callee := .builtin .append, args := #[s, x], argTypes := #[t, t] }) (e : TypeId) (z : Value) (size bytes : Nat) (ht : P.underlying t = some (.slice e))
    (hinfo : (P.info? e).map (fun i => (i.zero, i.size, i.bytes)) = some (some z, size, bytes)) (hzs : z.cells.size = size) (hsz : 0 < size)
    (base : Nat) (v : Value) (n : Nat) (xs : List Value) (hs : a.eval s = v) (hown : w.ownsRow base e size v n xs) (A : Option Addr) (m c : Nat) (news : List Value) (hx : a.eval x = .slice A m c)
    (hl : news.length = m * size) (hnews : (A = none ∧ m = 0 ∧ c = 0) ∨ ∃ a, A = some a ∧ ∀ j u, news[j]? = some u → w.cell? (a.add j) = some u) (h1 : ∀ u ∈ news, u.oneCell' = true) (hn : n + m ≤ 1000000000) (hby : bytes ≤ 1000) (hbase : base ≤ w.heap.size)
    (h : ∀ v' w', w'.ownsRow base e size v' (n + m) (xs ++ news) → w.grownBy w' v.ownBlock → From w v v' → K (a.put o.dst v') w') :
    o.wp P a w K Q := by
  obtain ⟨i0, hi, hz0, hz1, hz2⟩ := info_parts hinfo
  have hm : (n + m) * bytes ≤ 1000000000 * 1000 := Nat.mul_le_mul hn hby
  obtain ⟨v', w', hr, h2, h3, h4⟩ := run_fine (P := P) w base t o.type e i0 z size bytes ht hi hz0 hz1 hz2 hzs hsz v n xs hown A m c news hl hnews h1 (by unfold maxLen; omega) (by omega) hbase
  unfold Oper.wp execOp
  simp only [ho, resolve, invoke, builtin, Sem.run_bind, Sem.run_pure, Result.andThen_ok, List.map_toArray, List.map_cons, List.map_nil, hs, hx, hr]
  exact h v' w' h2 h3 h4

/-! What is kept -/
section
variable {a b : World} {u v : Value}
theorem grown_owns {e : TypeId} {s n base : Nat} {xs : List Value} (hg : a.grownBy b v.ownBlock) (hu : a.ownsRow base e s u n xs) (hs : Sep v u) : b.ownsRow base e s u n xs := by
  refine ⟨hu.1, ?_⟩
  rcases hu.2 with hn | ⟨g, cap, cur, rfl, hb, hgg, rest⟩
  · exact .inl hn
  · refine .inr ⟨g, cap, cur, rfl, hb, ?_, rest⟩
    rw [hg.block g (Array.getElem?_eq_some_iff.1 hgg).1 (fun e' => hs g e'.symm rfl)]
    exact hgg
theorem grown_box {k : Nat} {t : TypeId} {vs : List Value} (hg : a.grownBy b v.ownBlock) (h : BoxAt a k t vs) (hk : v.ownBlock ≠ some k) : BoxAt b k t vs := (hg.block k h.lt (fun e => hk e.symm)).trans h
theorem grown_same {w : World} (hs : Same w a) (hg : a.grownBy b v.ownBlock) (hv : ∀ g, v.ownBlock = some g → w.heap.size ≤ g) : Same w b := hs.grown hg hv
theorem owns_new {e : TypeId} {s n base : Nat} {xs : List Value} (h : a.ownsRow base e s v n xs) : ∀ g, v.ownBlock = some g → base ≤ g ∧ g < a.heap.size := h.lt
/-- Another row is apart from the new one too. -/
theorem Sep.from_ {e : TypeId} {s n base : Nat} {xs : List Value} {v' : Value} (hs : Sep v u) (hf : From a v v') (hu : a.ownsRow base e s u n xs) : Sep v' u := fun g h1 h2 => by
  rcases hf g h1 with h | h
  · exact hs g h h2
  · have := (hu.lt g h2).2; omega
/-- A row that is new is apart from one that lay before. -/
theorem Sep.new {e e' : TypeId} {s s' n n' base base' : Nat} {xs xs' : List Value} (hu : a.ownsRow base e s u n xs) (hv : b.ownsRow base' e' s' v n' xs') (h : a.heap.size ≤ base') : Sep u v := fun g h1 h2 => by
  have := (hu.lt g h1).2
  have := (hv.lt g h2).1
  omega
theorem Sep.box {e : TypeId} {s n base k : Nat} {xs : List Value} (hv : a.ownsRow base e s v n xs) (h : k < base) : v.ownBlock ≠ some k := fun e' => by have := (hv.lt k e').1; omega
end
end Go.Proofs.YtjfmknhnplefnaaGreat
end

section
/-
  Rows of records: copied whole, cleared at their end, cut short. No function of the program is named here.
-/
namespace Go.Proofs.YtjfmknhnplefnaaGreat
open Go.RowKit

section
variable {T : Type} {s : Nat} {cells : T → List Value} {e : TypeId} {a b w : World} {base : Nat} {v : Value} {L : List T}

theorem flat_inv (hl : ∀ x, (cells x).length = s) : ∀ {L : List T} {j : Nat} {u : Value}, (L.flatMap cells)[j]? = some u → ∃ k i x, L[k]? = some x ∧ (cells x)[i]? = some u ∧ j = k * s + i
  | [], j, u, h => by simp at h
  | y :: L, j, u, h => by
    rw [List.flatMap_cons] at h
    by_cases hj : j < s
    · rw [List.getElem?_append_left (by rw [hl]; exact hj)] at h
      exact ⟨0, j, y, rfl, h, by omega⟩
    · rw [List.getElem?_append_right (by rw [hl]; omega), hl] at h
      obtain ⟨k, i, x, h1, h2, h3⟩ := flat_inv hl h
      exact ⟨k + 1, i, x, by simpa using h1, h2, by rw [Nat.succ_mul]; omega⟩
theorem flat_take (hl : ∀ x, (cells x).length = s) : ∀ (L : List T) (i : Nat), (L.flatMap cells).take (i * s) = (L.take i).flatMap cells
  | [], i => by simp
  | y :: L, 0 => by simp
  | y :: L, i + 1 => by
    rw [List.flatMap_cons, List.take_succ_cons, List.flatMap_cons, ← flat_take hl L i, List.take_append, hl, List.take_of_length_le (by rw [hl, Nat.succ_mul]; omega), show (i + 1) * s - s = i * s by rw [Nat.succ_mul]; omega]
theorem setAll_take (k : Nat) : ∀ (vs xs : List Value) (i : Nat), k ≤ i → (setAll xs i vs).take k = xs.take k
  | [], _, _, _ => rfl
  | v :: vs, xs, i, h => by
    rw [setAll, setAll_take k vs _ (i + 1) (by omega), List.take_set_of_le h]
theorem setAllW_eq (g : Nat) : ∀ (vs : List Value) (i : Nat) (a : World), setAllW a g i vs = a.setCells g i vs
  | [], _, _ => rfl
  | v :: vs, i, a => by rw [setAllW, World.setCells, setAllW_eq g vs (i + 1)]
/-- A row cut short. -/
theorem owns_cut {n cap g i : Nat} {xs : List Value} (h : w.ownsRow base e s (.slice (some ⟨g, 0, none⟩) n cap) n xs) (hi : i ≤ n) : w.ownsRow base e s (.slice (some ⟨g, 0, none⟩) i cap) i (xs.take (i * s)) := by
  have hm : i * s ≤ n * s := Nat.mul_le_mul_right _ hi
  refine ⟨by rw [List.length_take, h.1]; omega, ?_⟩
  rcases h.2 with ⟨hv, _⟩ | ⟨g', cap', cur, hv, hb, hg, h1, h2, h3, h4⟩
  · simp at hv
  · injection hv with hv _ hc
    injection hv with hv
    injection hv with hv
    subst hv hc
    refine .inr ⟨g, cap, cur, rfl, hb, hg, by omega, h2, h3, ?_⟩
    rw [← h4, List.take_take, Nat.min_eq_left hm]
theorem OwnR.cut (hl : ∀ x, (cells x).length = s) {g n cap i : Nat} (h : OwnR e s cells w base (.slice (some ⟨g, 0, none⟩) n cap) L) (hi : i ≤ L.length) : OwnR e s cells w base (.slice (some ⟨g, 0, none⟩) i cap) (L.take i) := by
  have hn : n = L.length := by
    rcases h.2 with ⟨hv, _⟩ | ⟨g', cap, cur, hv, _⟩
    · simp at hv
    · injection hv
  subst hn
  have := owns_cut h hi
  rw [flat_take hl] at this
  show World.ownsRow _ _ _ _ _ _ _
  rw [List.length_take, Nat.min_eq_left hi]
  exact this
/-- A row whose end is written over, cut short of it. -/
theorem OwnR.over (hl : ∀ x, (cells x).length = s) {g n cap i : Nat} (h : OwnR e s cells w base (.slice (some ⟨g, 0, none⟩) n cap) L) (hi : i ≤ L.length) (vs : List Value) :
    OwnR e s cells (w.setCells g (i * s) vs) base (.slice (some ⟨g, 0, none⟩) i cap) (L.take i) ∧ w.grownBy (w.setCells g (i * s) vs) (some g) := by
  have hn : n = L.length := by
    rcases h.2 with ⟨hv, _⟩ | ⟨g', cap, cur, hv, _⟩
    · simp at hv
    · injection hv
  subst hn
  have h1 := owns_setAll vs (i * s) w _ h
  rw [setAllW_eq] at h1
  refine ⟨?_, h1.2⟩
  have h2 := owns_cut h1.1 hi
  rw [setAll_take _ _ _ _ (Nat.le_refl _), flat_take hl] at h2
  show World.ownsRow _ _ _ _ _ _ _
  rw [List.length_take, Nat.min_eq_left hi]
  exact h2
/-- 'clear' of the end of a row of records. -/
theorem run_clear_rec {P : Program} (t : TypeId) (z : Value) (ht : P.underlying t = some (.slice e)) (hv : ∀ w, (zeroValue e).run P w = .ok z w) (h1 : ∀ u ∈ z.cells.toList, u.oneCell' = true) (hz : z.cells.size = s)
    (hl : ∀ x, (cells x).length = s) {g n cap i c : Nat} (h : OwnR e s cells w base (.slice (some ⟨g, 0, none⟩) n cap) L) (hi : i < L.length) :
    ∃ vs, ∀ ty, (Builtin.clear_ #[t] ty #[.slice (some ⟨g, i * s, none⟩) (L.length - i) c]).run P w = .ok (.tuple #[]) (w.setCells g (i * s) vs) := by
  refine ⟨(Builtin.zeroCells z.cells (L.length - i)).toList, fun ty => ?_⟩
  have hlen : (Builtin.zeroCells z.cells (L.length - i)).toList.length = (L.length - i) * s := by simp [Builtin.zeroCells, hz]
  have hms : i * s + (L.length - i) * s = L.length * s := by rw [← Nat.add_mul]; congr 1; omega
  have hfl := flat_length hl L
  have hn : n = L.length := by
    rcases h.2 with ⟨hv, _⟩ | ⟨g', cap, cur, hv, _⟩
    · simp at hv
    · injection hv
  subst hn
  have hst := run_storeCells_cells (P := P) g (i * s) (Builtin.zeroCells z.cells (L.length - i)).toList 0 w
    (fun j hj => by rw [Nat.add_zero, World.ownsRow.cellAt h (i * s + j) (by omega), Option.isSome_iff_exists]; exact ⟨_, List.getElem?_eq_getElem (by omega)⟩)
    (fun j hj => by rw [Nat.add_zero]; exact World.ownsRow.frozenAt h _)
    (by
      intro u hu
      refine h1 u ?_
      simp only [Builtin.zeroCells, Array.toList_map, List.mem_map, Array.toList_range, List.mem_range] at hu
      obtain ⟨k, hk, rfl⟩ := hu
      have hk' : k % z.cells.size < z.cells.size := Nat.mod_lt _ (Nat.pos_of_ne_zero (fun h0 => by rw [h0] at hk; simp at hk))
      rw [getElem!_pos z.cells _ hk']
      exact Array.getElem_mem_toList hk')
  simp only [Nat.add_zero] at hst
  obtain ⟨m, hm⟩ : ∃ m, L.length - i = m + 1 := ⟨L.length - i - 1, by omega⟩
  rw [hm] at hst ⊢
  simp [Builtin.clear_, run_underlying ht, hv, hst]
/-- The same, in the walk. -/
theorem wp_clear {P : Program} {o : Oper} {ac : Act} {K : Act → World → Prop} {Q : Exit → Act → World → Prop} (x : Operand) (t : TypeId) (ho : o.op = .call { callee := .builtin .clear, args := #[x], argTypes := #[t] }) (z : Value) (bytes : Nat)
    (ht : P.underlying t = some (.slice e)) (hinfo : (P.info? e).map (fun i => (i.zero, i.size, i.bytes)) = some (some z, s, bytes)) (h1 : ∀ u ∈ z.cells.toList, u.oneCell' = true) (hz : z.cells.size = s)
    (hl : ∀ x, (cells x).length = s) {g n cap i c : Nat} (h : OwnR e s cells w base (.slice (some ⟨g, 0, none⟩) n cap) L) (hi : i < L.length) (hx : ac.eval x = .slice (some ⟨g, i * s, none⟩) (L.length - i) c)
    (hK : ∀ w', OwnR e s cells w' base (.slice (some ⟨g, 0, none⟩) i cap) (L.take i) → w.grownBy w' (some g) → K (ac.put o.dst (.tuple #[])) w') : o.wp P ac w K Q := by
  obtain ⟨i0, hi0, hz0, hz1, hz2⟩ := info_parts hinfo
  have hv : ∀ w, (zeroValue e).run P w = .ok z w := fun w => by simp [zeroValue, typeInfo, hi0, hz0]
  obtain ⟨vs, hr⟩ := run_clear_rec (P := P) t z ht hv h1 hz hl h hi (c := c)
  unfold Oper.wp execOp
  simp only [ho, resolve, invoke, builtin, Sem.run_bind, Sem.run_pure, Result.andThen_ok, List.map_toArray, List.map_cons, List.map_nil, hx, hr o.type]
  have := h.over hl (Nat.le_of_lt hi) vs
  exact hK _ this.1 this.2

/-- append of all elements of a slice. -/
theorem wp_appAll {P : Program} (w : World) {o : Oper} {a : Act} {K : Act → World → Prop} {Q : Exit → Act → World → Prop} (sx x : Operand) (t : TypeId)
    (ho : o.op = .call { callee := .builtin .append, args := #[sx, x], argTypes := #[t, t] }) (z : Value) (bytes : Nat) (ht : P.underlying t = some (.slice e))
    (hinfo : (P.info? e).map (fun i => (i.zero, i.size, i.bytes)) = some (some z, s, bytes)) (hzs : z.cells.size = s) (hs0 : 0 < s) (hl : ∀ x, (cells x).length = s) (h1 : ∀ x, ∀ u ∈ cells x, u.oneCell' = true)
    (base : Nat) (v : Value) (L : List T) (hs : a.eval sx = v) (hown : OwnR e s cells w base v L) (ad : Addr) (c : Nat) (M : List T) (hx : a.eval x = .slice (some ad) M.length c)
    (hM : RecAt s cells w (some ad) M) (hn : L.length + M.length ≤ 1000000000) (hby : bytes ≤ 1000) (hbase : base ≤ w.heap.size)
    (h : ∀ v' w', OwnR e s cells w' base v' (L ++ M) → Upd base w.heap.size w w' → K (a.put o.dst v') w') :
    o.wp P a w K Q := by
  obtain ⟨i0, hi, hz0, hz1, hz2⟩ := info_parts hinfo
  have hm : (L.length + M.length) * bytes ≤ 1000000000 * 1000 := Nat.mul_le_mul hn hby
  refine wp_append_own w sx x t ho base e i0 z s bytes ht hi hz0 hz1 hz2 hzs hs0 v L.length _ hs hown ad M.length c (M.flatMap cells) hx (flat_length hl M) ?_ ?_ (by unfold maxLen; omega) (by omega) hbase ?_
  · intro j u hu
    obtain ⟨k, i, y, hk, hi', rfl⟩ := flat_inv hl hu
    rcases hM with hM | ⟨b, off, hA, hb, hc⟩
    · subst hM; simp at hk
    · injection hA with hA
      subst hA
      rw [Addr.add_lit, ← Nat.add_assoc]
      exact hc k y hk i u hi'
  · intro u hu
    obtain ⟨y, _, hy⟩ := List.mem_flatMap.1 hu
    exact h1 y u hy
  · intro v' w' h2 h3 _
    refine h v' w' ?_ ⟨h3.os, h3.tape, h3.output, h3.size, fun k hk ho' => h3.block k hk (fun e => ?_)⟩
    · show World.ownsRow _ _ _ _ _ _ _
      rw [List.length_append, List.flatMap_append]
      exact h2
    · have := hown.lt k e.symm
      omega
end
end Go.Proofs.YtjfmknhnplefnaaGreat
end

section
/-
  append of a list of records to an own row.
-/
namespace Go.Proofs.YtjfmknhnplefnaaGreat
open Go.RowKit

theorem wp_fineR {T : Type} {e : TypeId} {s : Nat} {cells : T → List Value} {P : Program} (w : World) {o : Oper} {a : Act} {K : Act → World → Prop} {Q : Exit → Act → World → Prop} (sx x : Operand) (t : TypeId)
    (ho : o.op = .call { callee := .builtin .append, args := #[sx, x], argTypes := #[t, t] }) (z : Value) (bytes : Nat) (ht : P.underlying t = some (.slice e))
    (hinfo : (P.info? e).map (fun i => (i.zero, i.size, i.bytes)) = some (some z, s, bytes)) (hzs : z.cells.size = s) (hs0 : 0 < s) (hl : ∀ x, (cells x).length = s) (h1 : ∀ x, ∀ u ∈ cells x, u.oneCell' = true)
    (base : Nat) (v : Value) (L : List T) (hs : a.eval sx = v) (hown : OwnR e s cells w base v L) (A : Option Addr) (c : Nat) (M : List T) (hx : a.eval x = .slice A M.length c)
    (hM : RecAt s cells w A M) (hA : A = none → c = 0) (hn : L.length + M.length ≤ 1000000000) (hby : bytes ≤ 1000) (hbase : base ≤ w.heap.size)
    (h : ∀ v' w', OwnR e s cells w' base v' (L ++ M) → w.grownBy w' v.ownBlock → From w v v' → K (a.put o.dst v') w') :
    o.wp P a w K Q := by
  refine wp_fine w sx x t ho e z s bytes ht hinfo hzs hs0 base v L.length _ hs hown A M.length c (M.flatMap cells) hx (flat_length hl M) ?_ ?_ hn hby hbase ?_
  · rcases A with _ | ad
    · refine .inl ⟨rfl, ?_, hA rfl⟩
      rcases hM with hM | ⟨b, off, hA', _⟩
      · simp [hM]
      · cases hA'
    · refine .inr ⟨ad, rfl, fun j u hu => ?_⟩
      obtain ⟨k, i, y, hk, hi', rfl⟩ := flat_inv hl hu
      rcases hM with hM | ⟨b, off, hA, hb, hc⟩
      · subst hM; simp at hk
      · injection hA with hA
        subst hA
        rw [Addr.add_lit, ← Nat.add_assoc]
        exact hc k y hk i u hi'
  · intro u hu
    obtain ⟨y, _, hy⟩ := List.mem_flatMap.1 hu
    exact h1 y u hy
  · intro v' w' h2 h3 h4
    refine h v' w' ?_ h3 h4
    show World.ownsRow _ _ _ _ _ _ _
    rw [List.length_append, List.flatMap_append]
    exact h2
end Go.Proofs.YtjfmknhnplefnaaGreat
end

