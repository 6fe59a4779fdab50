/- Joined of Rec, Box: what is proved stands ahead of each part. -/
import Derived.Test.YtjfmknhnplefnaaGreatZMem
import Derived.Test.YtjfmknhnplefnaaGreatZPlain

section
/-
  Rows of records, each of s cells: no function of the program is named here.
-/
namespace Go.Proofs.YtjfmknhnplefnaaGreat
open Go.RowKit

section
variable {T : Type} {s : Nat} {cells : T → List Value}

theorem flat_length (hl : ∀ x, (cells x).length = s) : ∀ L : List T, (L.flatMap cells).length = L.length * s
  | [] => by simp
  | x :: L => by rw [List.flatMap_cons, List.length_append, hl, flat_length hl L, List.length_cons, Nat.succ_mul]; omega
theorem flat_at (hl : ∀ x, (cells x).length = s) : ∀ {L : List T} {k j : Nat} {x : T} {v : Value}, L[k]? = some x → (cells x)[j]? = some v → (L.flatMap cells)[k * s + j]? = some v
  | [], k, j, x, v, hx, _ => by simp at hx
  | y :: L, 0, j, x, v, hx, hv => by
    simp at hx; subst hx
    have hj : j < (cells y).length := (List.getElem?_eq_some_iff.1 hv).1
    rw [List.flatMap_cons, Nat.zero_mul, Nat.zero_add, List.getElem?_append_left hj]; exact hv
  | y :: L, k + 1, j, x, v, hx, hv => by
    have := flat_at hl (L := L) (k := k) (j := j) (by simpa using hx) hv
    rw [List.flatMap_cons, List.getElem?_append_right (by rw [hl, Nat.succ_mul]; omega), hl, show (k + 1) * s + j - s = k * s + j by rw [Nat.succ_mul]; omega]
    exact this
def setAll : List Value → Nat → List Value → List Value
  | xs, _, [] => xs
  | xs, i, v :: vs => setAll (xs.set i v) (i + 1) vs
theorem setAll_append (ys : List Value) : ∀ (vs xs : List Value) (i : Nat), setAll (ys ++ xs) (ys.length + i) vs = ys ++ setAll xs i vs
  | [], _, _ => rfl
  | v :: vs, xs, i => by
    rw [setAll, setAll, List.set_append_right _ _ (by omega), show ys.length + i - ys.length = i by omega, show ys.length + i + 1 = ys.length + (i + 1) by omega]
    exact setAll_append ys vs (xs.set i v) (i + 1)
theorem setAll_head : ∀ (vs us xs : List Value), us.length = vs.length → setAll (us ++ xs) 0 vs = vs ++ xs
  | [], [], xs, _ => rfl
  | [], _ :: _, _, h => by simp at h
  | _ :: _, [], _, h => by simp at h
  | v :: vs, u :: us, xs, h => by
    have h1 := setAll_append [v] vs (us ++ xs) 0
    have h2 := setAll_head vs us xs (by simpa using h)
    rw [setAll, List.cons_append, List.set_cons_zero]
    simp only [List.singleton_append, List.length_singleton, Nat.add_zero] at h1
    rw [h2] at h1
    exact h1
theorem flat_set (hl : ∀ x, (cells x).length = s) : ∀ {L : List T} {k : Nat} {y : T}, k < L.length → setAll (L.flatMap cells) (k * s) (cells y) = (L.set k y).flatMap cells
  | [], k, y, h => by simp at h
  | x :: L, 0, y, _ => by
    rw [List.flatMap_cons, Nat.zero_mul, setAll_head _ _ _ (by rw [hl, hl]), List.set_cons_zero, List.flatMap_cons]
  | x :: L, k + 1, y, h => by
    have ih := flat_set hl (L := L) (k := k) (y := y) (by simpa using h)
    rw [List.flatMap_cons, List.set_cons_succ, List.flatMap_cons, show (k + 1) * s = (cells x).length + k * s by rw [hl, Nat.succ_mul]; omega, setAll_append, ih]
def setAllW (w : World) (g : Nat) : Nat → List Value → World
  | _, [] => w
  | i, v :: vs => setAllW (w.setCell ⟨g, i, none⟩ v) g (i + 1) vs

def OwnR (e : TypeId) (s : Nat) (cells : T → List Value) (w : World) (base : Nat) (v : Value) (L : List T) : Prop := w.ownsRow base e s v L.length (L.flatMap cells)
variable {e : TypeId} {a b : World} {base : Nat} {v : Value} {L : List T}
theorem OwnR.same (h : OwnR e s cells a base v L) (hs : Same a b) : OwnR e s cells b base v L := hs.owns h
theorem OwnR.drew (h : OwnR e s cells a base v L) (hs : Drew a b) : OwnR e s cells b base v L := hs.same.owns h
theorem OwnR.alloc (h : OwnR e s cells a base v L) (o : Obj) : OwnR e s cells (a.alloc o) base v L := World.ownsRow.alloc h o
theorem OwnR.upd {lo hi l k : Nat} (h : OwnR e s cells a base v L) (hu : Upd lo hi a b) (hz : Zn v l k) (hd : k ≤ lo ∨ hi ≤ l) : OwnR e s cells b base v L := hu.owns h hz hd
theorem OwnR.zn (h : OwnR e s cells a base v L) : Zn v base a.heap.size := Zn.of h
theorem OwnR.form (h : OwnR e s cells a base v L) : ∃ A c, v = .slice A L.length c := owns_form h
theorem OwnR.rebase {base' : Nat} (h : OwnR e s cells a base v L) (hb : base' ≤ base) : OwnR e s cells a base' v L := owns_base h hb
theorem OwnR.nil (e : TypeId) (s : Nat) (cells : T → List Value) (a : World) (base : Nat) : OwnR e s cells a base (.slice none 0 0) [] := World.ownsRow_nil _ _ _ _
theorem OwnR.empty (e : TypeId) (s : Nat) (cells : T → List Value) (a : World) {base : Nat} (hb : base ≤ a.heap.size) : OwnR e s cells (a.alloc (.cells #[] e)) base (.slice (some ⟨a.heap.size, 0, none⟩) 0 0) [] :=
  World.ownsRow_lit _ _ 0 hb (by unfold maxLen; omega) (by simp)
theorem OwnR.recs (hl : ∀ x, (cells x).length = s) {A : Option Addr} {n c : Nat} (h : OwnR e s cells a base (.slice A n c) L) : RecAt s cells a A L := by
  rcases L with _ | ⟨z, L⟩
  · exact .inl rfl
  · have hlt := World.ownsRow.lt h
    rcases h.2 with ⟨hv, hn⟩ | ⟨g, cap, cur, hv, hb, hh, hr⟩
    · simp at hn
    · injection hv with hv
      subst hv
      refine .inr ⟨g, 0, rfl, (hlt g rfl).2, fun k x hx j u hu => ?_⟩
      have := World.ownsRow.cells h (g := g) rfl (k * s + j) u (flat_at hl hx hu)
      rw [Addr.add_lit] at this
      rw [Nat.add_assoc]
      exact this
theorem OwnR.at_ (hl : ∀ x, (cells x).length = s) {A : Option Addr} {n c : Nat} (h : OwnR e s cells a base (.slice A n c) L) {k : Nat} {x : T} (hx : L[k]? = some x) :
    ∃ g, A = some ⟨g, 0, none⟩ ∧ base ≤ g ∧ g < a.heap.size ∧ (∀ j u, (cells x)[j]? = some u → a.cell? ⟨g, k * s + j, none⟩ = some u) ∧ ∀ j, a.frozen? ⟨g, j, none⟩ = false := by
  have hk := (List.getElem?_eq_some_iff.1 hx).1
  have hlt := World.ownsRow.lt h
  rcases h.2 with ⟨hv, hn⟩ | ⟨g, cap, cur, hv, hb, hh, hr⟩
  · rw [hn] at hk; omega
  · injection hv with hA hn hc
    subst hA hn hc
    refine ⟨g, rfl, hb, (hlt g rfl).2, fun j u hu => ?_, fun j => World.ownsRow.frozenAt h j⟩
    have hf := flat_at hl hx hu
    have hi := (List.getElem?_eq_some_iff.1 hf).1
    rw [World.ownsRow.cellAt h (k * s + j) (by rw [flat_length hl] at hi; exact hi)]
    exact hf
theorem OwnR.atg (hl : ∀ x, (cells x).length = s) {g n c : Nat} (h : OwnR e s cells a base (.slice (some ⟨g, 0, none⟩) n c) L) {k : Nat} {x : T} (hx : L[k]? = some x) :
    base ≤ g ∧ g < a.heap.size ∧ (∀ j u, (cells x)[j]? = some u → a.cell? ⟨g, k * s + j, none⟩ = some u) ∧ ∀ j, a.frozen? ⟨g, j, none⟩ = false := by
  obtain ⟨g', he, h1⟩ := OwnR.at_ hl h hx
  injection he with he
  injection he with he
  subst he
  exact h1
theorem owns_setAll {g n cap : Nat} : ∀ (vs : List Value) (i : Nat) (a : World) (xs : List Value), a.ownsRow base e s (.slice (some ⟨g, 0, none⟩) n cap) n xs →
    (setAllW a g i vs).ownsRow base e s (.slice (some ⟨g, 0, none⟩) n cap) n (setAll xs i vs) ∧ a.grownBy (setAllW a g i vs) (some g)
  | [], _, a, _, h => ⟨h, World.grownBy.refl a _⟩
  | v :: vs, i, a, xs, h => by
    have h1 := World.ownsRow.stored h i v
    have h2 := owns_setAll vs (i + 1) _ _ h1.1
    exact ⟨h2.1, ⟨h2.2.os.trans h1.2.os, h2.2.tape.trans h1.2.tape, h2.2.output.trans h1.2.output, Nat.le_trans h1.2.size h2.2.size,
      fun k hk hne => (h2.2.block k (Nat.lt_of_lt_of_le hk h1.2.size) hne).trans (h1.2.block k hk hne)⟩⟩
/-- All cells of element k are written. -/
theorem OwnR.set (hl : ∀ x, (cells x).length = s) {g n c : Nat} (h : OwnR e s cells a base (.slice (some ⟨g, 0, none⟩) n c) L) {k : Nat} (hk : k < L.length) (y : T) :
    Hid (OwnR e s cells (setAllW a g (k * s) (cells y)) base (.slice (some ⟨g, 0, none⟩) n c) (L.set k y) ∧ a.grownBy (setAllW a g (k * s) (cells y)) (some g)) := by
  have hn : n = L.length := by
    rcases h.2 with ⟨hv, _⟩ | ⟨g', cap, cur, hv, _⟩
    · simp at hv
    · injection hv
  subst hn
  have := owns_setAll (cells y) (k * s) a _ h
  rw [flat_set hl hk] at this
  refine ⟨?_, this.2⟩
  show World.ownsRow _ _ _ _ _ _ _
  rw [List.length_set]
  exact this.1
theorem madeCells_flat (z : List Value) (x : T) (hx : cells x = z) (hz : z.length = s) (hs : 0 < s) (n : Nat) : (madeCells z.toArray (n * s)).toList = (List.replicate n x).flatMap cells := by
  have hfl : ((List.replicate n x).flatMap cells).length = n * s := by
    clear hs
    induction n with
    | zero => simp
    | succ n ih => rw [List.replicate_succ, List.flatMap_cons, List.length_append, ih, hx, hz, Nat.succ_mul]; omega
  have hat : ∀ (n k j : Nat) (v : Value), k < n → z[j]? = some v → ((List.replicate n x).flatMap cells)[k * s + j]? = some v := by
    intro n
    induction n with
    | zero => intro k j v hk; omega
    | succ n ih =>
      intro k j v hk hv
      have hj := (List.getElem?_eq_some_iff.1 hv).1
      rw [List.replicate_succ, List.flatMap_cons, hx]
      rcases k with _ | k
      · rw [Nat.zero_mul, Nat.zero_add, List.getElem?_append_left hj]; exact hv
      · rw [List.getElem?_append_right (by rw [hz, Nat.succ_mul]; omega), hz, show (k + 1) * s + j - s = k * s + j by rw [Nat.succ_mul]; omega]
        exact ih k j v (by omega) hv
  apply List.ext_getElem?
  intro i
  by_cases hi : i < n * s
  · have hm : i % s < z.length := by rw [hz]; exact Nat.mod_lt _ hs
    have h1 := hat n (i / s) (i % s) z[i % s] (Nat.div_lt_of_lt_mul (by rw [Nat.mul_comm]; exact hi)) (List.getElem?_eq_getElem hm)
    rw [show i / s * s + i % s = i by rw [Nat.mul_comm]; exact Nat.div_add_mod i s] at h1
    rw [h1]
    have hm' : i % z.length < z.length := by rw [hz]; rw [hz] at hm; exact hm
    simp only [madeCells, Array.toList_map, Array.toList_range, List.getElem?_map, List.getElem?_range hi, Option.map_some, List.size_toArray, List.getElem!_toArray]
    rw [getElem!_pos z (i % z.length) hm']
    simp [hz]
  · rw [List.getElem?_eq_none (by simp [madeCells]; omega), List.getElem?_eq_none (by omega)]

/-- What a function hands back that makes a list of records of its own. -/
def RetR (e : TypeId) (s : Nat) (cells : T → List Value) (w : World) (L : List T) (en : Ending) (w' : World) : Prop :=
  ∃ A c, en = .returned (.slice A L.length c) ∧ OwnR e s cells w' w.heap.size (.slice A L.length c) L ∧ Same w w'
theorem RetR.of {w w' : World} (h : OwnR e s cells w' w.heap.size v L) (hs : Same w w') : RetR e s cells w L (.returned v) w' := by
  obtain ⟨A, c, rfl⟩ := h.form
  exact ⟨A, c, rfl, h, hs⟩

theorem wp_appR {P : Program} (w : World) {o : Oper} {a : Act} {K : Act → World → Prop} {Q : Exit → Act → World → Prop} (sx x : Operand) (t : TypeId)
    (ho : o.op = .call { callee := .builtin .append, args := #[sx, x], argTypes := #[t, t] }) (z : Value) (bytes : Nat) (ht : P.underlying t = some (.slice e))
    (hinfo : (P.info? e).map (fun i => (i.zero, i.size, i.bytes)) = some (some z, s, bytes)) (hzs : z.cells.size = s) (hs0 : 0 < s) (hl : ∀ x, (cells x).length = s) (h1 : ∀ x, ∀ u ∈ cells x, u.oneCell' = true)
    (base : Nat) (v : Value) (L : List T) (hs : a.eval sx = v) (hown : OwnR e s cells w base v L) (b c : Nat) (y : T) (hx : a.eval x = .slice (some ⟨b, 0, none⟩) 1 c)
    (hc : ∀ j u, (cells y)[j]? = some u → w.cell? ⟨b, j, none⟩ = some u) (hn : L.length ≤ 1000000000) (hby : bytes ≤ 1000) (hbase : base ≤ w.heap.size)
    (h : ∀ v' w', OwnR e s cells w' base v' (L ++ [y]) → Upd base w.heap.size w w' → K (a.put o.dst v') w') :
    o.wp P a w K Q := by
  refine wp_app w sx x t ho e z s bytes ht hinfo hzs hs0 base v L.length _ hs hown b c (cells y) hx (hl y) hc (h1 y) hn hby hbase ?_
  intro v' w' h1 h2
  refine h v' w' ?_ h2
  show World.ownsRow _ _ _ _ _ _ _
  rw [List.length_append, List.flatMap_append]
  simpa using h1
/-- The cells of a new block. -/
theorem cells_new {w : World} {cs : Array Value} {t : TypeId} {ys : List Value} (h : cs = ys.toArray) : ∀ (j : Nat) (u : Value), ys[j]? = some u → (w.alloc (.cells cs t)).cell? ⟨w.heap.size, j, none⟩ = some u := by
  intro j u hu
  subst h
  rw [cell_of_row _ _ _ _ _ _ (heap_alloc_new w _)]
  simpa using hu
end
end Go.Proofs.YtjfmknhnplefnaaGreat
end

section
/-
  A new block of a few cells: no function of the program is named here.
-/
namespace Go.Proofs.YtjfmknhnplefnaaGreat
open Go.RowKit

def BoxAt (w : World) (g : Nat) (t : TypeId) (vs : List Value) : Prop := w.heap[g]? = some (.cells vs.toArray t (0, 0))
theorem BoxAt.new (w : World) (t : TypeId) (vs : List Value) : BoxAt (w.alloc (.cells vs.toArray t)) w.heap.size t vs := heap_alloc_new w _
section
variable {a b : World} {g : Nat} {t : TypeId} {vs : List Value}
theorem BoxAt.lt (h : BoxAt a g t vs) : g < a.heap.size := (Array.getElem?_eq_some_iff.1 h).1
theorem BoxAt.cell (h : BoxAt a g t vs) (j : Nat) {v : Value} (hv : vs[j]? = some v) : a.cell? ⟨g, j, none⟩ = some v := by
  rw [cell_of_row a g _ _ _ (0, 0) h]; simpa using hv
theorem BoxAt.frozen (h : BoxAt a g t vs) (j : Nat) : a.frozen? ⟨g, j, none⟩ = false := frozen_of_row a g j _ _ h
theorem BoxAt.same (h : BoxAt a g t vs) (hs : Same a b) : BoxAt b g t vs := (hs.block g h.lt).trans h
theorem BoxAt.drew (h : BoxAt a g t vs) (hs : Drew a b) : BoxAt b g t vs := h.same hs.same
theorem BoxAt.alloc (h : BoxAt a g t vs) (o : Obj) : BoxAt (a.alloc o) g t vs := h.same ((Same.refl a).alloc o)
theorem BoxAt.upd {lo hi : Nat} (h : BoxAt a g t vs) (hu : Upd lo hi a b) (hz : g < lo ∨ hi ≤ g) : BoxAt b g t vs := (hu.block g h.lt hz).trans h
/-- A store into it. -/
theorem BoxAt.set (h : BoxAt a g t vs) (j : Nat) (u : Value) : BoxAt (a.setCell ⟨g, j, none⟩ u) g t (vs.set j u) := by
  have hh := heap_setCell_same a g j _ _ u h
  show _ = _
  rw [hh]; simp
/-- A store into another block. -/
theorem BoxAt.other (h : BoxAt a g t vs) {k j : Nat} (u : Value) (hk : g ≠ k) : BoxAt (a.setCell ⟨k, j, none⟩ u) g t vs := (heap_setCell_other a _ _ _ (by simpa using hk)).trans h
theorem upd_setCell (a : World) (g j : Nat) (u : Value) : Upd g (g + 1) a (a.setCell ⟨g, j, none⟩ u) := ⟨rfl, rfl, rfl, by simp, fun k _ ho => heap_setCell_other a _ _ _ (by simp; omega)⟩
end
end Go.Proofs.YtjfmknhnplefnaaGreat
end

