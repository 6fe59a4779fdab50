/-
  What a call that writes one row, or two, leaves as it was.
-/
import Derived.Test.YthelclibokkdnaaFine
namespace Go.Proofs.Ythelclibokkdnaa
open Go.RowKit

def Only1 (v : Value) (a b : World) : Prop := a.grownBy b v.ownBlock
structure Only2 (u v : Value) (a b : World) : Prop where
  os : b.os = a.os
  tape : b.tape = a.tape
  output : b.output = a.output
  size : a.heap.size ≤ b.heap.size
  block : ∀ k, k < a.heap.size → u.ownBlock ≠ some k → v.ownBlock ≠ some k → b.heap[k]? = a.heap[k]?
section
variable {a b : World} {u v x : Value} {e : TypeId} {s n base : Nat} {xs : List Value}
theorem Sep.zn {l k l' k' : Nat} (hu : Zn u l k) (hv : Zn v l' k') (h : k ≤ l') : Sep u v := fun g h1 h2 => by
  have := hu g h1
  have := hv g h2
  omega
theorem Zn.box {l k g : Nat} (hv : Zn v l k) (h : g < l ∨ k ≤ g) : v.ownBlock ≠ some g := fun e' => by have := hv g e'; omega
theorem Zn.lo {l k m : Nat} (hv : Zn v l k) (h : m ≤ l) : ∀ g, v.ownBlock = some g → m ≤ g := fun g hg => by have := hv g hg; omega
theorem Only1.size (h : Only1 v a b) : a.heap.size ≤ b.heap.size := World.grownBy.size h
theorem Only1.owns (h : Only1 v a b) (hx : a.ownsRow base e s x n xs) (hs : Sep v x) : b.ownsRow base e s x n xs := grown_owns h hx hs
theorem Only1.box {k : Nat} {t : TypeId} {vs : List Value} (h : Only1 v a b) (hx : BoxAt a k t vs) (hs : v.ownBlock ≠ some k) : BoxAt b k t vs := grown_box h hx hs
theorem Only1.same {w : World} (hs : Same w a) (h : Only1 v a b) (hv : ∀ g, v.ownBlock = some g → w.heap.size ≤ g) : Same w b := hs.grown h hv
theorem Only2.owns (h : Only2 u v a b) (hx : a.ownsRow base e s x n xs) (h1 : Sep u x) (h2 : Sep v x) : b.ownsRow base e s x n xs := by
  refine ⟨hx.1, ?_⟩
  rcases hx.2 with hn | ⟨g, cap, cur, rfl, hb, hgg, rest⟩
  · exact .inl hn
  · refine .inr ⟨g, cap, cur, rfl, hb, ?_, rest⟩
    rw [h.block g (Array.getElem?_eq_some_iff.1 hgg).1 (fun e' => h1 g e' rfl) (fun e' => h2 g e' rfl)]
    exact hgg
theorem Only2.box {k : Nat} {t : TypeId} {vs : List Value} (h : Only2 u v a b) (hx : BoxAt a k t vs) (h1 : u.ownBlock ≠ some k) (h2 : v.ownBlock ≠ some k) : BoxAt b k t vs := (h.block k hx.lt h1 h2).trans hx
theorem Only2.same {w : World} (hs : Same w a) (h : Only2 u v a b) (hu : ∀ g, u.ownBlock = some g → w.heap.size ≤ g) (hv : ∀ g, v.ownBlock = some g → w.heap.size ≤ g) : Same w b :=
  Below.trans hs ⟨h.os, h.tape, h.output, h.size, fun k hk => h.block k (Nat.lt_of_lt_of_le hk hs.size) (fun e => by have := hu k e; omega) (fun e => by have := hv k e; omega)⟩
end

/-- What writes a zone that is the row's block alone writes that row alone. -/
theorem only_of_zone {P : Program} {f : FuncId} {args : Array Value} {w : World} {v : Value} {Q : Ending → World → Prop}
    (h : ∀ lo hi, Zn v lo hi → Calls P f args w fun e w' => Q e w' ∧ Upd lo hi w w') : Calls P f args w fun e w' => Q e w' ∧ Only1 v w w' := by
  rcases hv : v.ownBlock with _ | g
  · refine (h 0 0 (fun g' hg' => by rw [hv] at hg'; cases hg')).mono fun e w' ⟨h1, h2⟩ => ⟨h1, ?_⟩
    exact ⟨h2.os, h2.tape, h2.output, h2.size, fun k hk _ => h2.block k hk (.inr (Nat.zero_le _))⟩
  · refine (h g (g + 1) (fun g' hg' => by rw [hv] at hg'; cases hg'; omega)).mono fun e w' ⟨h1, h2⟩ => ⟨h1, ?_⟩
    exact ⟨h2.os, h2.tape, h2.output, h2.size, fun k hk hn => h2.block k hk (by rw [hv] at hn; have : k ≠ g := fun e => hn (by rw [e]); omega)⟩

theorem Only1.new (w : World) {o : Obj} {v : Value} {w' : World} (h : Only1 v (w.alloc o) w') : Only1 v w w' :=
  ⟨h.os, h.tape, h.output, Nat.le_trans (by simp) h.size, fun k hk hn => (h.block k (by simp; omega) hn).trans (heap_alloc_old w o hk)⟩
end Go.Proofs.Ythelclibokkdnaa
