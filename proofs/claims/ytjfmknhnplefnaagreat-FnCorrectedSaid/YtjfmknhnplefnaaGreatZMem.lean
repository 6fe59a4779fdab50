/-
  Words for memory and small facts: no function of the program is named here.
-/
import Derived.WalkKit
import Derived.KernelRfl
import Derived.BigQuiet
import Derived.Deep.QuietTactic
import Derived.Lib.Hide
import Derived.WalkLawsBesides
import Derived.WalkSpells
namespace Go.Proofs.YtjfmknhnplefnaaGreat
open Go.RowKit

theorem ret_bool {a b : Bool} (h : a = b) : Ending.returned (.bool a) = .returned (.bool b) := by rw [h]
theorem ret_int {a b : Int} (h : a = b) : Ending.returned (.int .i64 a) = .returned (.int .i64 b) := by rw [h]

/-! The world after a call that has turned nothing that was there. -/
def Same (w w' : World) : Prop := Below w.heap.size w w'
theorem Same.refl (w : World) : Same w w := Below.refl _ _
theorem Same.size {a b : World} (h : Same a b) : a.heap.size ≤ b.heap.size := Below.size h
theorem Same.trans {a b c : World} (h : Same a b) (k : Same b c) : Same a c := Below.trans h (Below.mono k h.size)
theorem Same.drewN {a b : World} (h : Same a b) (n : Nat) : Same a (b.drewN n) := ⟨h.os, h.tape, h.output, h.size, h.block⟩
theorem Same.drew {a b : World} (h : Same a b) : Same a b.drew := ⟨h.os, h.tape, h.output, h.size, h.block⟩
theorem Same.alloc {a b : World} (h : Same a b) (o : Obj) : Same a (b.alloc o) := Below.alloc h h.size o
theorem Same.setCell {a b : World} (h : Same a b) {p : Addr} (hp : a.heap.size ≤ p.block) (u : Value) : Same a (b.setCell p u) := Below.setCell h hp u
theorem Same.grown {a b c : World} {row : Option Nat} (h : Same a b) (k : b.grownBy c row) (hr : ∀ g, row = some g → a.heap.size ≤ g) : Same a c := Below.grown h k h.size hr
theorem Same.cell {a b : World} (h : Same a b) {p : Addr} (hp : p.block < a.heap.size) : b.cell? p = a.cell? p := Below.cell h hp
theorem Same.frozen {a b : World} (h : Same a b) {p : Addr} (hp : p.block < a.heap.size) : b.frozen? p = a.frozen? p := Below.frozen h hp
theorem Same.by_ {a b : World} (h : Same a b) (row : Option Nat) : a.grownBy b row := ⟨h.os, h.tape, h.output, h.size, fun k hk _ => h.block k hk⟩
theorem Same.owns {a b : World} (h : Same a b) {base : Nat} {e : TypeId} {size : Nat} {v : Value} {n : Nat} {xs : List Value} (ho : a.ownsRow base e size v n xs) : b.ownsRow base e size v n xs :=
  ho.kept (h.by_ none) (by cases v.ownBlock <;> simp)

/-! A write into a zone of blocks. -/
structure Upd (lo hi : Nat) (w w' : World) : Prop where
  os : w'.os = w.os
  tape : w'.tape = w.tape
  output : w'.output = w.output
  size : w.heap.size ≤ w'.heap.size
  block : ∀ k, k < w.heap.size → (k < lo ∨ hi ≤ k) → w'.heap[k]? = w.heap[k]?
theorem Same.upd {a b : World} (h : Same a b) (lo hi : Nat) : Upd lo hi a b := ⟨h.os, h.tape, h.output, h.size, fun k hk _ => h.block k hk⟩
theorem Upd.trans {lo hi : Nat} {a b c : World} (h : Upd lo hi a b) (k : Upd lo hi b c) : Upd lo hi a c :=
  ⟨k.os.trans h.os, k.tape.trans h.tape, k.output.trans h.output, Nat.le_trans h.size k.size, fun i hi ho => (k.block i (Nat.lt_of_lt_of_le hi h.size) ho).trans (h.block i hi ho)⟩
/-- Writes into blocks that are newer than the first world. -/
theorem Upd.trans' {lo hi lo' hi' : Nat} {a b c : World} (h : Upd lo hi a b) (k : Upd lo' hi' b c) (hl : a.heap.size ≤ lo') : Upd lo hi a c :=
  ⟨k.os.trans h.os, k.tape.trans h.tape, k.output.trans h.output, Nat.le_trans h.size k.size, fun i hi ho => (k.block i (Nat.lt_of_lt_of_le hi h.size) (.inl (by omega))).trans (h.block i hi ho)⟩
theorem Upd.mono {lo hi lo' hi' : Nat} {a b : World} (h : Upd lo hi a b) (h1 : lo' ≤ lo) (h2 : hi ≤ hi') : Upd lo' hi' a b :=
  ⟨h.os, h.tape, h.output, h.size, fun k hk ho => h.block k hk (by omega)⟩
theorem Same.upds {lo hi : Nat} {a b c : World} (h : Same a b) (k : Upd lo hi b c) (hl : a.heap.size ≤ lo) : Same a c :=
  Below.trans h ⟨k.os, k.tape, k.output, k.size, fun i hi => k.block i (Nat.lt_of_lt_of_le hi h.size) (.inl (by omega))⟩
theorem Upd.grown {lo hi g : Nat} {a b c : World} (h : Upd lo hi a b) (k : b.grownBy c (some g)) (h1 : lo ≤ g) (h2 : g < hi) : Upd lo hi a c :=
  h.trans ⟨k.os, k.tape, k.output, k.size, fun i hi ho => k.block i hi (by rintro ⟨⟩; omega)⟩
theorem Upd.drewN {lo hi : Nat} {a b : World} (h : Upd lo hi a b) (n : Nat) : Upd lo hi a (b.drewN n) := ⟨h.os, h.tape, h.output, h.size, h.block⟩
theorem Upd.cell {lo hi : Nat} {a b : World} (h : Upd lo hi a b) {p : Addr} (hp : p.block < a.heap.size) (ho : p.block < lo ∨ hi ≤ p.block) : b.cell? p = a.cell? p :=
  World.cell?_of_block (h.block p.block hp ho)
/-- The block of a slice's row lies in this zone. -/
def Zn (v : Value) (lo hi : Nat) : Prop := ∀ g, v.ownBlock = some g → lo ≤ g ∧ g < hi
theorem Zn.of {w : World} {base : Nat} {e : TypeId} {size : Nat} {v : Value} {n : Nat} {xs : List Value} (h : w.ownsRow base e size v n xs) : Zn v base w.heap.size := h.lt
theorem Upd.owns {lo hi l h : Nat} {a b : World} (hu : Upd lo hi a b) {base : Nat} {e : TypeId} {size : Nat} {v : Value} {n : Nat} {xs : List Value} (ho : a.ownsRow base e size v n xs) (hz : Zn v l h)
    (hd : h ≤ lo ∨ hi ≤ l) : b.ownsRow base e size v n xs := by
  refine ⟨ho.1, ?_⟩
  rcases ho.2 with hn | ⟨g, cap, cur, rfl, hb, hgg, rest⟩
  · exact .inl hn
  · have := hz g rfl
    refine .inr ⟨g, cap, cur, rfl, hb, ?_, rest⟩
    rw [hu.block g (Array.getElem?_eq_some_iff.1 hgg).1 (by omega)]
    exact hgg
theorem owns_base {w : World} {base base' : Nat} {e : TypeId} {size : Nat} {v : Value} {n : Nat} {xs : List Value} (h : w.ownsRow base e size v n xs) (hb : base' ≤ base) : w.ownsRow base' e size v n xs := by
  refine ⟨h.1, ?_⟩
  rcases h.2 with hn | ⟨g, cap, cur, hv, hg, r⟩
  · exact .inl hn
  · exact .inr ⟨g, cap, cur, hv, by omega, r⟩
theorem owns_form {w : World} {base : Nat} {e : TypeId} {size : Nat} {v : Value} {n : Nat} {xs : List Value} (h : w.ownsRow base e size v n xs) : ∃ A c, v = .slice A n c := by
  rcases h.2 with ⟨rfl, rfl⟩ | ⟨g, cap, cur, rfl, _⟩
  · exact ⟨none, 0, rfl⟩
  · exact ⟨_, _, rfl⟩

/-- append of one element to a row of the call's own. -/
theorem wp_app {P : Program} (w : World) {o : Oper} {a : Act} {K : Act → World → Prop} {Q : Exit → Act → World → Prop} (s x : Operand) (t : TypeId)
    (ho : o.op = .call { callee := .builtin .append, args := #[s, x], argTypes := #[t, t] }) (e : TypeId) (z : Value) (size bytes : Nat) (ht : P.underlying t = some (.slice e))
    (hinfo : (P.info? e).map (fun i => (i.zero, i.size, i.bytes)) = some (some z, size, bytes)) (hzs : z.cells.size = size) (hsz : 0 < size)
    (base : Nat) (v : Value) (n : Nat) (xs : List Value) (hs : a.eval s = v) (hown : w.ownsRow base e size v n xs) (b c : Nat) (news : List Value) (hx : a.eval x = .slice (some ⟨b, 0, none⟩) 1 c)
    (hl : news.length = size) (hc : ∀ j u, news[j]? = some u → w.cell? ⟨b, j, none⟩ = some u) (h1 : ∀ u ∈ news, u.oneCell' = true) (hn : n ≤ 1000000000) (hby : bytes ≤ 1000) (hbase : base ≤ w.heap.size)
    (h : ∀ v' w', w'.ownsRow base e size v' (n + 1) (xs ++ news) → Upd base w.heap.size w w' → K (a.put o.dst v') w') :
    o.wp P a w K Q := by
  obtain ⟨i0, hi, hz0, hz1, hz2⟩ := info_parts hinfo
  have hm : (n + 1) * bytes ≤ 1000000001 * 1000 := Nat.mul_le_mul (by omega) hby
  refine wp_append_own w s x t ho base e i0 z size bytes ht hi hz0 hz1 hz2 hzs hsz v n xs hs hown ⟨b, 0, none⟩ 1 c news hx (by omega) ?_ h1 (by unfold maxLen; omega) (by omega) hbase ?_
  · intro j u hu
    rw [Addr.add_lit]
    simpa using hc j u hu
  · intro v' w' h2 h3 _
    refine h v' w' h2 ⟨h3.os, h3.tape, h3.output, h3.size, fun k hk ho' => h3.block k hk (fun e => ?_)⟩
    have := hown.lt k e.symm
    omega
/-- The cell of a new block of one, a draw behind it. -/
theorem cells_new1 (w : World) (v : Value) (t : TypeId) : (w.alloc (.cells #[v] t)).drew.cell? ⟨w.heap.size, 0, none⟩ = some v := by
  show (w.alloc (.cells #[v] t)).cell? ⟨w.heap.size, 0, none⟩ = some v
  rw [cell_of_row _ _ _ _ _ _ (heap_alloc_new w _)]
  rfl
theorem wpList_of {P : Program} {ops : Array Oper} {rest : List Oper} {o : Oper} {a : Act} {w : World} {Q : Exit → Act → World → Prop} (hg : o.guard = none)
    (h : ∀ K : Act → World → Prop, (∀ a w, wpList P ops Q rest a w → K a w) → o.wp P a w K Q) : wpList P ops Q (o :: rest) a w := wpList_plain hg h
theorem step_of {P : Program} {ops : Array Oper} {o : Oper} {a : Act} {w : World} {K : Act → World → Prop} {Q : Exit → Act → World → Prop} {E : Prop} (hg : o.guard = none) (h : o.wp P a w K Q) :
    if Region.wanted o (yielded ops a.tmps) = true then Oper.wp P o a w K Q else E := by
  rw [if_pos (by simp [Region.wanted, hg])]
  exact h

/-! The world after some draws. -/
def Drew (w w' : World) : Prop := ∃ n, w' = w.drewN n
theorem Drew.refl (w : World) : Drew w w := ⟨0, rfl⟩
theorem Drew.trans {a b c : World} (h : Drew a b) (k : Drew b c) : Drew a c := by
  obtain ⟨n, rfl⟩ := h; obtain ⟨m, rfl⟩ := k; exact ⟨n + m, by rw [World.drewN_drewN]⟩
theorem Drew.drewN {a b : World} (h : Drew a b) (n : Nat) : Drew a (b.drewN n) := h.trans ⟨n, rfl⟩
theorem Drew.cell {a b : World} (h : Drew a b) (p : Addr) : b.cell? p = a.cell? p := by obtain ⟨n, rfl⟩ := h; rfl
theorem Drew.size {a b : World} (h : Drew a b) : b.heap.size = a.heap.size := by obtain ⟨n, rfl⟩ := h; rfl
theorem Drew.same {a b : World} (h : Drew a b) : Same a b := by obtain ⟨n, rfl⟩ := h; exact (Same.refl a).drewN n
theorem Same.drewed {a b c : World} (h : Same a b) (k : Drew b c) : Same a c := h.trans k.same
theorem quiet_left {P : Program} {f : FuncId} {args : Array Value} {w : World} {n : Nat} {v : Value}
    (h : Calls P f args (w.drewN n) fun e w' => e = .returned v ∧ w.drewN n = w') : Calls P f args (w.drewN n) fun e w'' => e = .returned v ∧ ∃ m, w'' = w.drewN m :=
  h.mono fun _ _ ⟨he, hm⟩ => ⟨he, n, hm.symm⟩
theorem quiet_drew {P : Program} {f : FuncId} {args : Array Value} {w : World} {n : Nat} {v : Value}
    (h : Calls P f args (w.drewN n) fun e w' => e = .returned v ∧ Drew (w.drewN n) w') : Calls P f args (w.drewN n) fun e w'' => e = .returned v ∧ ∃ m, w'' = w.drewN m :=
  h.mono fun _ _ ⟨he, m, hm⟩ => ⟨he, n + m, by rw [hm, World.drewN_drewN]⟩

/-! A slice that reads as a list of records, each of s cells; of integers. -/
def RecAt {T : Type} (s : Nat) (cells : T → List Value) (w : World) (A : Option Addr) (L : List T) : Prop :=
  L = [] ∨ ∃ b off, A = some ⟨b, off, none⟩ ∧ b < w.heap.size ∧ ∀ k x, L[k]? = some x → ∀ j v, (cells x)[j]? = some v → w.cell? ⟨b, off + k * s + j, none⟩ = some v
section
variable {T : Type} {s : Nat} {cells : T → List Value} {w w' : World} {A : Option Addr} {L : List T}
theorem RecAt.keep (h : RecAt s cells w A L) (hs : w.heap.size ≤ w'.heap.size) (hc : ∀ p : Addr, p.block < w.heap.size → w'.cell? p = w.cell? p) : RecAt s cells w' A L := by
  rcases h with h | ⟨b, off, h1, h2, h3⟩
  · exact .inl h
  · exact .inr ⟨b, off, h1, by omega, fun k x hx j v hv => by rw [hc _ h2]; exact h3 k x hx j v hv⟩
theorem RecAt.same (h : RecAt s cells w A L) (hs : Same w w') : RecAt s cells w' A L := h.keep hs.size fun _ hp => hs.cell hp
theorem RecAt.drew (h : RecAt s cells w A L) (hd : Drew w w') : RecAt s cells w' A L := h.same hd.same
theorem RecAt.at_ (h : RecAt s cells w A L) {k : Nat} (hk : k < L.length) :
    ∃ b off x, A = some ⟨b, off, none⟩ ∧ (∀ j v, (cells x)[j]? = some v → w.cell? ⟨b, off + k * s + j, none⟩ = some v) ∧ Hid (L[k]? = some x) ∧ b < w.heap.size := by
  rcases h with h | ⟨b, off, h1, h2, h3⟩
  · subst h; simp at hk
  · exact ⟨b, off, L[k], h1, fun j v hv => h3 k _ (List.getElem?_eq_getElem hk) j v hv, List.getElem?_eq_getElem hk, h2⟩
theorem RecAt.at2 (h : RecAt s cells w A L) {j : Nat} (hk : j + 1 < L.length) :
    ∃ b off x y, A = some ⟨b, off, none⟩ ∧ (∀ i v, (cells x)[i]? = some v → w.cell? ⟨b, off + j * s + i, none⟩ = some v) ∧
      (∀ i v, (cells y)[i]? = some v → w.cell? ⟨b, off + (j + 1) * s + i, none⟩ = some v) ∧ Hid (L[j]? = some x) ∧ Hid (L[j + 1]? = some y) ∧ b < w.heap.size := by
  rcases h with h | ⟨b, off, h1, h2, h3⟩
  · subst h; simp at hk
  · have hj : j < L.length := by omega
    exact ⟨b, off, L[j], L[j + 1], h1, fun i v hv => h3 j _ (List.getElem?_eq_getElem hj) i v hv, fun i v hv => h3 (j + 1) _ (List.getElem?_eq_getElem hk) i v hv,
      List.getElem?_eq_getElem hj, List.getElem?_eq_getElem hk, h2⟩
end

def IntsAt (w : World) (A : Option Addr) (zs : List Int) : Prop :=
  zs = [] ∨ ∃ b off, A = some ⟨b, off, none⟩ ∧ b < w.heap.size ∧ ∀ k x, zs[k]? = some x → w.cell? ⟨b, off + k, none⟩ = some (.int .i64 x)
section
variable {w w' : World} {A : Option Addr} {zs : List Int}
theorem IntsAt.keep (h : IntsAt w A zs) (hs : w.heap.size ≤ w'.heap.size) (hc : ∀ p : Addr, p.block < w.heap.size → w'.cell? p = w.cell? p) : IntsAt w' A zs := by
  rcases h with h | ⟨b, off, h1, h2, h3⟩
  · exact .inl h
  · exact .inr ⟨b, off, h1, by omega, fun k x hx => by rw [hc _ h2]; exact h3 k x hx⟩
theorem IntsAt.same (h : IntsAt w A zs) (hs : Same w w') : IntsAt w' A zs := h.keep hs.size fun _ hp => hs.cell hp
theorem IntsAt.drew (h : IntsAt w A zs) (hd : Drew w w') : IntsAt w' A zs := h.same hd.same
theorem IntsAt.at_ (h : IntsAt w A zs) {k : Nat} (hk : k < zs.length) :
    ∃ b off x, A = some ⟨b, off, none⟩ ∧ w.cell? ⟨b, off + k, none⟩ = some (.int .i64 x) ∧ Hid (zs[k]? = some x) ∧ b < w.heap.size := by
  rcases h with h | ⟨b, off, h1, h2, h3⟩
  · subst h; simp at hk
  · exact ⟨b, off, zs[k], h1, h3 k _ (List.getElem?_eq_getElem hk), List.getElem?_eq_getElem hk, h2⟩
theorem IntsAt.at2 (h : IntsAt w A zs) {j : Nat} (hk : j + 1 < zs.length) :
    ∃ b off x y, A = some ⟨b, off, none⟩ ∧ w.cell? ⟨b, off + j, none⟩ = some (.int .i64 x) ∧ w.cell? ⟨b, off + (j + 1), none⟩ = some (.int .i64 y) ∧
      Hid (zs[j]? = some x) ∧ Hid (zs[j + 1]? = some y) ∧ b < w.heap.size := by
  rcases h with h | ⟨b, off, h1, h2, h3⟩
  · subst h; simp at hk
  · have hj : j < zs.length := by omega
    exact ⟨b, off, zs[j], zs[j + 1], h1, h3 j _ (List.getElem?_eq_getElem hj), h3 (j + 1) _ (List.getElem?_eq_getElem hk), List.getElem?_eq_getElem hj, List.getElem?_eq_getElem hk, h2⟩
end
end Go.Proofs.YtjfmknhnplefnaaGreat
