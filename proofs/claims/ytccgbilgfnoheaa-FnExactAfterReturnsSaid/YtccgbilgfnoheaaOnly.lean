/-
  What a call that writes one row, or two, leaves as it was; runs and banks marked and held.
-/
import Derived.Test.YtccgbilgfnoheaaFine
import Derived.Test.YtccgbilgfnoheaaBank2
import Derived.Test.YtccgbilgfnoheaaRun2
namespace Go.Proofs.Ytccgbilgfnoheaa
open Go.RowKit

def Only1 (v : Value) (a b : World) : Prop := a.grownBy b v.ownBlock
structure Only2 (u v : Value) (a b : World) : Prop where
  os : b.os = a.os
  tape : b.tape = a.tape
  output : b.output = a.output
  size : a.heap.size ≤ b.heap.size
  block : ∀ k, k < a.heap.size → u.ownBlock ≠ some k → v.ownBlock ≠ some k → b.heap[k]? = a.heap[k]?
section
variable {a b : World} {u v x : Value} {e : TypeId} {s n base : Nat} {xs : List Value}
theorem Sep.zn {l k l' k' : Nat} (hu : Zn u l k) (hv : Zn v l' k') (h : k ≤ l') : Sep u v := fun g h1 h2 => by
  have := hu g h1
  have := hv g h2
  omega
theorem Zn.box {l k g : Nat} (hv : Zn v l k) (h : g < l ∨ k ≤ g) : v.ownBlock ≠ some g := fun e' => by have := hv g e'; omega
theorem Zn.lo {l k m : Nat} (hv : Zn v l k) (h : m ≤ l) : ∀ g, v.ownBlock = some g → m ≤ g := fun g hg => by have := hv g hg; omega
theorem Only1.size (h : Only1 v a b) : a.heap.size ≤ b.heap.size := World.grownBy.size h
theorem Only1.owns (h : Only1 v a b) (hx : a.ownsRow base e s x n xs) (hs : Sep v x) : b.ownsRow base e s x n xs := grown_owns h hx hs
theorem Only1.box {k : Nat} {t : TypeId} {vs : List Value} (h : Only1 v a b) (hx : BoxAt a k t vs) (hs : v.ownBlock ≠ some k) : BoxAt b k t vs := grown_box h hx hs
theorem Only1.same {w : World} (hs : Same w a) (h : Only1 v a b) (hv : ∀ g, v.ownBlock = some g → w.heap.size ≤ g) : Same w b := hs.grown h hv
theorem Only2.owns (h : Only2 u v a b) (hx : a.ownsRow base e s x n xs) (h1 : Sep u x) (h2 : Sep v x) : b.ownsRow base e s x n xs := by
  refine ⟨hx.1, ?_⟩
  rcases hx.2 with hn | ⟨g, cap, cur, rfl, hb, hgg, rest⟩
  · exact .inl hn
  · refine .inr ⟨g, cap, cur, rfl, hb, ?_, rest⟩
    rw [h.block g (Array.getElem?_eq_some_iff.1 hgg).1 (fun e' => h1 g e' rfl) (fun e' => h2 g e' rfl)]
    exact hgg
theorem Only2.box {k : Nat} {t : TypeId} {vs : List Value} (h : Only2 u v a b) (hx : BoxAt a k t vs) (h1 : u.ownBlock ≠ some k) (h2 : v.ownBlock ≠ some k) : BoxAt b k t vs := (h.block k hx.lt h1 h2).trans hx
theorem Only2.same {w : World} (hs : Same w a) (h : Only2 u v a b) (hu : ∀ g, u.ownBlock = some g → w.heap.size ≤ g) (hv : ∀ g, v.ownBlock = some g → w.heap.size ≤ g) : Same w b :=
  Below.trans hs ⟨h.os, h.tape, h.output, h.size, fun k hk => h.block k (Nat.lt_of_lt_of_le hk hs.size) (fun e => by have := hu k e; omega) (fun e => by have := hv k e; omega)⟩
end

/-- What writes a zone that is the row's block alone writes that row alone. -/
theorem only_of_zone {P : Program} {f : FuncId} {args : Array Value} {w : World} {v : Value} {Q : Ending → World → Prop}
    (h : ∀ lo hi, Zn v lo hi → Calls P f args w fun e w' => Q e w' ∧ Upd lo hi w w') : Calls P f args w fun e w' => Q e w' ∧ Only1 v w w' := by
  rcases hv : v.ownBlock with _ | g
  · refine (h 0 0 (fun g' hg' => by rw [hv] at hg'; cases hg')).mono fun e w' ⟨h1, h2⟩ => ⟨h1, ?_⟩
    exact ⟨h2.os, h2.tape, h2.output, h2.size, fun k hk _ => h2.block k hk (.inr (Nat.zero_le _))⟩
  · refine (h g (g + 1) (fun g' hg' => by rw [hv] at hg'; cases hg'; omega)).mono fun e w' ⟨h1, h2⟩ => ⟨h1, ?_⟩
    exact ⟨h2.os, h2.tape, h2.output, h2.size, fun k hk hn => h2.block k hk (by rw [hv] at hn; have : k ≠ g := fun e => hn (by rw [e]); omega)⟩

theorem markI_only (A : Option Addr) (n c : Nat) (zs : List Int) (k0 : Int) (w : World) (base : Nat) (hl : zs.length = n) (hz : zs.length ≤ 2000000) (h0 : 0 ≤ k0) (h1 : k0 ≤ 1000000000) (hA : OwnI w base (.slice A n c) zs) :
    Calls Try.prog 37 #[.slice A n c, .int .i64 k0] w fun e w' => (e = .returned (.int .i64 (k0 + (n : Int))) ∧ OwnI w' base (.slice A n c) (markL k0 n)) ∧ Only1 (.slice A n c) w w' :=
  only_of_zone fun _ _ hz' => (markIntS_any A n c zs k0 w base hl hz h0 h1 hA hz').mono fun _ _ ⟨a, b, d⟩ => ⟨⟨a, b⟩, d⟩

theorem Only1.new (w : World) {o : Obj} {v : Value} {w' : World} (h : Only1 v (w.alloc o) w') : Only1 v w w' :=
  ⟨h.os, h.tape, h.output, Nat.le_trans (by simp) h.size, fun k hk hn => (h.block k (by simp; omega) hn).trans (heap_alloc_old w o hk)⟩
set_option maxHeartbeats 400000 in
theorem markBank_any (A : Option Addr) (n c : Nat) (K : List Int) (B : Option Addr) (m d : Nat) (C : List Int) (k0 : Int) (w : World) (base base' : Nat) (hl : K.length = n) (hz : K.length ≤ 2000000) (hl' : C.length = m) (hz' : C.length ≤ 2000000) (h0 : 0 ≤ k0) (h1 : k0 ≤ 900000000)
    (hA : OwnI w base (.slice A n c) K) (hB : OwnI w base' (.slice B m d) C) (hs : Sep (.slice A n c) (.slice B m d)) :
    Calls Try.prog 42 #[.agg #[.slice A n c, .slice B m d], .int .i64 k0] w fun e w' => e = .returned (.int .i64 (k0 + (n : Int) + (m : Int))) ∧ OwnI w' base (.slice A n c) (markL k0 n) ∧ OwnI w' base' (.slice B m d) (markL (k0 + (n : Int)) m) ∧ Only2 (.slice A n c) (.slice B m d) w w' := by
  go_enter Try.func42, Try.ntmps42
  go_wp2_with fail
  have hb := BoxAt.new w 29 [.slice A n c, .slice B m d]
  have hba := owns_new hA
  have hbb := owns_new hB
  refine (markI_only A n c K k0 _ base hl hz h0 (by omega) (OwnI.alloc hA _)).mono ?_
  rintro e w1 ⟨⟨rfl, ho1⟩, hu1⟩
  have hb1 := hu1.box hb (fun e => by have := (hba _ e).2; omega)
  have hB1 := hu1.owns (OwnI.alloc hB _) hs
  have b1 := hb1.cell 1 rfl
  replace hu1 := hu1.new w
  go_wp2_with fail
  refine (markI_only B m d C (k0 + (n : Int)) _ base' hl' hz' (by omega) (by omega) hB1).mono ?_
  rintro e w2 ⟨⟨rfl, ho2⟩, hu2⟩
  have ho12 := hu2.owns ho1 hs.symm
  go_wp2
  go_ret
  refine ⟨ret_int (by omega), ho12, ho2, ⟨hu2.os.trans hu1.os, hu2.tape.trans hu1.tape, hu2.output.trans hu1.output, Nat.le_trans hu1.size hu2.size, fun k hk h1 h2 => ?_⟩⟩
  exact (hu2.block k (Nat.lt_of_lt_of_le hk hu1.size) (fun e => h2 e.symm)).trans (hu1.block k hk (fun e => h1 e.symm))
set_option maxHeartbeats 400000 in
theorem heldBank_any (A : Option Addr) (n c : Nat) (B : Option Addr) (m d : Nat) (k0 : Int) (w : World) (hz : n ≤ 2000000) (hz' : m ≤ 2000000) (h0 : 0 ≤ k0) (h1 : k0 ≤ 900000000) (hA : IntsAt w A (markL k0 n)) (hB : IntsAt w B (markL (k0 + (n : Int)) m)) :
    Calls Try.prog 43 #[.agg #[.slice A n c, .slice B m d], .int .i64 k0] w fun e w' => e = .returned (.int .i64 (k0 + (n : Int) + (m : Int))) ∧ Same w w' := by
  go_enter Try.func43, Try.ntmps43
  go_wp2_with fail
  have hb : BoxAt (w.alloc (.cells #[.slice A n c, .slice B m d] 29)) (w.heap.size) 29 [.slice A n c, .slice B m d] := by simpa using (BoxAt.new w 29 [.slice A n c, .slice B m d])
  have hs0 := (Same.alloc (Same.refl w) (.cells #[.slice A n c, .slice B m d] 29))
  generalize (w.alloc (.cells #[.slice A n c, .slice B m d] 29)) = w0 at *
  refine (heldIntS_any A n c k0 _ hz h0 (by omega) (hA.same hs0)).mono ?_
  rintro e w1 ⟨rfl, rfl⟩
  have b1 := hb.cell 1 rfl
  go_wp2_with fail
  refine (heldIntS_any B m d (k0 + (n : Int)) _ hz' (by omega) (by omega) (hB.same hs0)).mono ?_
  rintro e w1 ⟨rfl, rfl⟩
  go_wp2
  go_ret
  exact ⟨ret_int (by omega), hs0⟩

theorem markItem_only (A : Option Addr) (n c : Nat) (L : List TItem) (k0 : Int) (w : World) (base : Nat) (hl : L.length = n) (hz : L.length ≤ 2000000) (h0 : 0 ≤ k0) (h1 : k0 ≤ 1000000000) (hA : OwnItem w base (.slice A n c) L) :
    Calls Try.prog 71 #[.slice A n c, .int .i64 k0] w fun e w' => (e = .returned (.int .i64 (k0 + 3 * (n : Int))) ∧ OwnItem w' base (.slice A n c) (markItem k0 n)) ∧ Only1 (.slice A n c) w w' :=
  only_of_zone fun _ _ hz' => (markItemS_any A n c L k0 w base hl hz h0 h1 hA hz').mono fun _ _ ⟨a, b, d⟩ => ⟨⟨a, b⟩, d⟩

set_option maxHeartbeats 400000 in
theorem markRun_any (mo : Int) (A : Option Addr) (n c : Nat) (L : List TItem) (k0 : Int) (w : World) (base : Nat) (hl : L.length = n) (hz : L.length ≤ 2000000) (h0 : 0 ≤ k0) (h1 : k0 ≤ 1000000000) (hA : OwnItem w base (.slice A n c) L) :
    Calls Try.prog 38 #[.agg #[.int .i64 mo, .slice A n c], .int .i64 k0] w fun e w' => e = .returned (.int .i64 (k0 + 3 * (n : Int))) ∧ OwnItem w' base (.slice A n c) (markItem k0 n) ∧ Only1 (.slice A n c) w w' := by
  go_enter Try.func38, Try.ntmps38
  go_wp2_with fail
  refine (markItem_only A n c L k0 _ base hl hz h0 h1 (OwnR.alloc hA _)).mono ?_
  rintro e w1 ⟨⟨rfl, ho1⟩, hu1⟩
  go_wp2
  go_ret
  exact ⟨rfl, ho1, hu1.new w⟩
set_option maxHeartbeats 400000 in
theorem heldRun_any (mo : Int) (A : Option Addr) (n c : Nat) (k0 : Int) (w : World) (hz : n ≤ 2000000) (h0 : 0 ≤ k0) (h1 : k0 ≤ 1000000000) (hA : AtItem w A (markItem k0 n)) :
    Calls Try.prog 39 #[.agg #[.int .i64 mo, .slice A n c], .int .i64 k0] w fun e w' => e = .returned (.int .i64 (k0 + 3 * (n : Int))) ∧ Same w w' := by
  go_enter Try.func39, Try.ntmps39
  go_wp2_with fail
  refine (heldItemS_any A n c k0 _ hz h0 h1 (hA.same ((Same.refl w).alloc _))).mono ?_
  rintro e w1 ⟨rfl, hs1⟩
  go_wp2
  go_ret
  exact ⟨rfl, ((Same.refl w).alloc _).trans hs1⟩
end Go.Proofs.Ytccgbilgfnoheaa
