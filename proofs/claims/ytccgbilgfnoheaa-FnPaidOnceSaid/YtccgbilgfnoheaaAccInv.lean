/-
  What has come up of Accept's new bank: an invariant over every order.
-/
import Derived.Test.YtccgbilgfnoheaaAccept
import Derived.Test.YtccgbilgfnoheaaOrd
namespace Go.Proofs.Ytccgbilgfnoheaa
open Go.RowKit
set_option linter.unusedVariables false

/-- The row as it stands: grown, copied or not yet there. -/
def vrow (cl ap : Bool) (x y : Value) : Value := bif ap then y else bif cl then x else .slice none 0 0
def lrow (cl ap : Bool) (K K3 : List Int) : List Int := bif ap then K3 else bif cl then K else []
theorem vrow_none (x y : Value) : vrow false false x y = .slice none 0 0 := rfl
/-- A value of one integer that lies in a block apart from these two rows. -/
def OneAt (w : World) (x : Value) (key : Int) (u v : Value) : Prop := ∃ g, x = .slice (some ⟨g, 0, none⟩) 1 1 ∧ BoxAt w g 3 [.int .i64 key] ∧ u.ownBlock ≠ some g ∧ v.ownBlock ≠ some g

structure AccInv (w0 : World) (h : Nat) (A : Option Addr) (c : Nat) (K : List Int) (B : Option Addr) (d : Nat) (C : List Int) (key cents : Int) (K3 C3 : List Int) (l : Nat → Bool) (t : Nat → Value) (w1 : World) : Prop where
  same : Same w0 w1
  a9 : l 0 = true → t 9 = .pointer (some ⟨h, 0, none⟩)
  a10 : l 1 = true → t 10 = .slice A K.length c
  a12 : l 3 = true → t 12 = .int .i64 key
  a15 : l 6 = true → t 15 = .pointer (some ⟨h, 1, none⟩)
  a16 : l 7 = true → t 16 = .slice B C.length d
  a18 : l 9 = true → t 18 = .int .i64 cents
  a21 : l 12 = true → t 21 = .agg #[t 14, t 20]
  d5 : l 5 = true → l 2 = true
  d11 : l 11 = true → l 8 = true
  d12 : l 12 = true → l 5 = true ∧ l 11 = true
  d14 : l 14 = true → l 12 = true ∧ l 13 = true
  oK : OwnI w1 w0.heap.size (vrow (l 2) (l 5) (t 11) (t 14)) (lrow (l 2) (l 5) K K3)
  oC : OwnI w1 w0.heap.size (vrow (l 8) (l 11) (t 17) (t 20)) (lrow (l 8) (l 11) C C3)
  sp : Sep (vrow (l 2) (l 5) (t 11) (t 14)) (vrow (l 8) (l 11) (t 17) (t 20))
  bK : l 4 = true → l 5 = false → OneAt w1 (t 13) key (vrow (l 2) (l 5) (t 11) (t 14)) (vrow (l 8) (l 11) (t 17) (t 20))
  bC : l 10 = true → l 11 = false → OneAt w1 (t 19) cents (vrow (l 2) (l 5) (t 11) (t 14)) (vrow (l 8) (l 11) (t 17) (t 20))
  bk : l 13 = true → ∃ g, t 8 = .pointer (some ⟨g, 0, none⟩) ∧ w0.heap.size ≤ g ∧ BoxAt w1 g 29 (bif l 14 then [t 14, t 20] else [.slice none 0 0, .slice none 0 0]) ∧
    (vrow (l 2) (l 5) (t 11) (t 14)).ownBlock ≠ some g ∧ (vrow (l 8) (l 11) (t 17) (t 20)).ownBlock ≠ some g

theorem OneAt.same {w w' : World} {x u v : Value} {key : Int} (h : OneAt w x key u v) (hs : Same w w') : OneAt w' x key u v := by
  obtain ⟨g, h1, h2, h3, h4⟩ := h
  exact ⟨g, h1, h2.same hs, h3, h4⟩
section
variable {w0 w1 w2 : World} {h : Nat} {A : Option Addr} {c : Nat} {K : List Int} {B : Option Addr} {d : Nat} {C : List Int} {key cents : Int} {K3 C3 : List Int} {l : Nat → Bool} {t : Nat → Value}
theorem AccInv.start (hs : Same w0 w1) : AccInv w0 h A c K B d C key cents K3 C3 (fun _ => false) t w1 := by
  constructor <;> first | exact hs | exact OwnI.nil _ _ | exact fun g (h : (Value.slice none 0 0).ownBlock = some g) _ => by cases h | exact fun h => by cases h
theorem AccInv.world (i : AccInv w0 h A c K B d C key cents K3 C3 l t w1) (hs : Same w1 w2) : AccInv w0 h A c K B d C key cents K3 C3 l t w2 := by
  refine ⟨i.same.trans hs, i.a9, i.a10, i.a12, i.a15, i.a16, i.a18, i.a21, i.d5, i.d11, i.d12, i.d14, i.oK.same hs, i.oC.same hs, i.sp, fun a b => (i.bK a b).same hs, fun a b => (i.bC a b).same hs, fun a => ?_⟩
  obtain ⟨g, h1, h2, h3, h4⟩ := i.bk a
  exact ⟨g, h1, h2, h3.same hs, h4⟩
theorem AccInv.s0 (i : AccInv w0 h A c K B d C key cents K3 C3 l t w1) (h0 : l 0 = false) : AccInv w0 h A c K B d C key cents K3 C3 (upd l 0) (updT t 9 (.pointer (some ⟨h, 0, none⟩))) w1 := { i with a9 := fun _ => rfl }
theorem AccInv.s1 (i : AccInv w0 h A c K B d C key cents K3 C3 l t w1) (h0 : l 1 = false) : AccInv w0 h A c K B d C key cents K3 C3 (upd l 1) (updT t 10 (.slice A K.length c)) w1 := { i with a10 := fun _ => rfl }
theorem AccInv.s3 (i : AccInv w0 h A c K B d C key cents K3 C3 l t w1) (h0 : l 3 = false) : AccInv w0 h A c K B d C key cents K3 C3 (upd l 3) (updT t 12 (.int .i64 key)) w1 := { i with a12 := fun _ => rfl }
theorem AccInv.s6 (i : AccInv w0 h A c K B d C key cents K3 C3 l t w1) (h0 : l 6 = false) : AccInv w0 h A c K B d C key cents K3 C3 (upd l 6) (updT t 15 (.pointer (some ⟨h, 1, none⟩))) w1 := { i with a15 := fun _ => rfl }
theorem AccInv.s7 (i : AccInv w0 h A c K B d C key cents K3 C3 l t w1) (h0 : l 7 = false) : AccInv w0 h A c K B d C key cents K3 C3 (upd l 7) (updT t 16 (.slice B C.length d)) w1 := { i with a16 := fun _ => rfl }
theorem AccInv.s9 (i : AccInv w0 h A c K B d C key cents K3 C3 l t w1) (h0 : l 9 = false) : AccInv w0 h A c K B d C key cents K3 C3 (upd l 9) (updT t 18 (.int .i64 cents)) w1 := { i with a18 := fun _ => rfl }
theorem AccInv.s12 (i : AccInv w0 h A c K B d C key cents K3 C3 l t w1) (h0 : l 12 = false) (h5 : l 5 = true) (h11 : l 11 = true) : AccInv w0 h A c K B d C key cents K3 C3 (upd l 12) (updT t 21 (.agg #[t 14, t 20])) w1 := { i with a21 := fun _ => rfl, d12 := fun _ => ⟨h5, h11⟩, d14 := fun h => ⟨rfl, (i.d14 h).2⟩ }
/-- The copies. -/
theorem AccInv.s2 (i : AccInv w0 h A c K B d C key cents K3 C3 l t w1) (h0 : l 2 = false) {v : Value} (ho : OwnI w2 w1.heap.size v K) (hs : Same w1 w2) : AccInv w0 h A c K B d C key cents K3 C3 (upd l 2) (updT t 11 v) w2 := by
  have h5 : l 5 = false := by cases h5 : l 5; rfl; rw [i.d5 h5] at h0; cases h0
  have i' := i.world hs
  have e1 : vrow (upd l 2 2) (upd l 2 5) (updT t 11 v 11) (updT t 11 v 14) = v := by show vrow true (l 5) v (t 14) = v; rw [h5]; rfl
  have e2 : lrow (upd l 2 2) (upd l 2 5) K K3 = K := by show lrow true (l 5) K K3 = K; rw [h5]; rfl
  have hn : ∀ g, v.ownBlock = some g → w1.heap.size ≤ g := fun g hg => (owns_new ho g hg).1
  refine { i' with d5 := fun _ => rfl, d12 := fun h => i.d12 h, oK := ?_, sp := ?_, bK := ?_, bC := ?_, bk := ?_ }
  · rw [e1, e2]; exact ho.base i.same.size
  · rw [e1]; exact fun g hg hc => by have := (owns_new i.oC g hc).2; have := hn g hg; omega
  · intro a b
    rw [e1]
    obtain ⟨g, p1, p2, p3, p4⟩ := i.bK a b
    exact ⟨g, p1, p2.same hs, fun hg => by have := p2.lt; have := hn g hg; omega, p4⟩
  · intro a b
    rw [e1]
    obtain ⟨g, p1, p2, p3, p4⟩ := i.bC a b
    exact ⟨g, p1, p2.same hs, fun hg => by have := p2.lt; have := hn g hg; omega, p4⟩
  · intro a
    rw [e1]
    have h14 : l 14 = false := by cases h14 : l 14; rfl; rw [i.d5 (i.d12 (i.d14 h14).1).1] at h0; cases h0
    obtain ⟨g, p1, p2, p3, p4, p5⟩ := i.bk a
    refine ⟨g, p1, p2, ?_, fun hg => by have := p3.lt; have := hn g hg; omega, p5⟩
    show BoxAt w2 g _ (bif l 14 then _ else _)
    have := p3.same hs
    rw [h14] at this ⊢
    exact this
theorem AccInv.s8 (i : AccInv w0 h A c K B d C key cents K3 C3 l t w1) (h0 : l 8 = false) {v : Value} (ho : OwnI w2 w1.heap.size v C) (hs : Same w1 w2) : AccInv w0 h A c K B d C key cents K3 C3 (upd l 8) (updT t 17 v) w2 := by
  have h5 : l 11 = false := by cases h5 : l 11; rfl; rw [i.d11 h5] at h0; cases h0
  have i' := i.world hs
  have e1 : vrow (upd l 8 8) (upd l 8 11) (updT t 17 v 17) (updT t 17 v 20) = v := by show vrow true (l 11) v (t 20) = v; rw [h5]; rfl
  have e2 : lrow (upd l 8 8) (upd l 8 11) C C3 = C := by show lrow true (l 11) C C3 = C; rw [h5]; rfl
  have hn : ∀ g, v.ownBlock = some g → w1.heap.size ≤ g := fun g hg => (owns_new ho g hg).1
  refine { i' with d11 := fun _ => rfl, d12 := fun h => i.d12 h, oC := ?_, sp := ?_, bK := ?_, bC := ?_, bk := ?_ }
  · rw [e1, e2]; exact ho.base i.same.size
  · rw [e1]; exact fun g hg hc => by have := (owns_new i.oK g hg).2; have := hn g hc; omega
  · intro a b
    rw [e1]
    obtain ⟨g, p1, p2, p3, p4⟩ := i.bK a b
    exact ⟨g, p1, p2.same hs, p3, fun hg => by have := p2.lt; have := hn g hg; omega⟩
  · intro a b
    rw [e1]
    obtain ⟨g, p1, p2, p3, p4⟩ := i.bC a b
    exact ⟨g, p1, p2.same hs, p3, fun hg => by have := p2.lt; have := hn g hg; omega⟩
  · intro a
    rw [e1]
    have h14 : l 14 = false := by cases h14 : l 14; rfl; rw [i.d11 (i.d12 (i.d14 h14).1).2] at h0; cases h0
    obtain ⟨g, p1, p2, p3, p4, p5⟩ := i.bk a
    refine ⟨g, p1, p2, ?_, p4, fun hg => by have := p3.lt; have := hn g hg; omega⟩
    show BoxAt w2 g _ (bif l 14 then _ else _)
    have := p3.same hs
    rw [h14] at this ⊢
    exact this
/-- The new blocks of one integer, and the bank's. -/
theorem AccInv.s4 (i : AccInv w0 h A c K B d C key cents K3 C3 l t w1) (h0 : l 4 = false) : AccInv w0 h A c K B d C key cents K3 C3 (upd l 4) (updT t 13 (.slice (some ⟨w1.heap.size, 0, none⟩) 1 1)) (w1.alloc (.cells #[.int .i64 key] 3)) := by
  have i' := i.world ((Same.refl w1).alloc (.cells #[.int .i64 key] 3))
  refine { i' with bK := fun _ b => ⟨_, rfl, BoxAt.new w1 _ [_], fun e => ?_, fun e => ?_⟩ }
  · have := (owns_new i.oK _ e).2; omega
  · have := (owns_new i.oC _ e).2; omega
theorem AccInv.s10 (i : AccInv w0 h A c K B d C key cents K3 C3 l t w1) (h0 : l 10 = false) : AccInv w0 h A c K B d C key cents K3 C3 (upd l 10) (updT t 19 (.slice (some ⟨w1.heap.size, 0, none⟩) 1 1)) (w1.alloc (.cells #[.int .i64 cents] 3)) := by
  have i' := i.world ((Same.refl w1).alloc (.cells #[.int .i64 cents] 3))
  refine { i' with bC := fun _ b => ⟨_, rfl, BoxAt.new w1 _ [_], fun e => ?_, fun e => ?_⟩ }
  · have := (owns_new i.oK _ e).2; omega
  · have := (owns_new i.oC _ e).2; omega
theorem AccInv.s13 (i : AccInv w0 h A c K B d C key cents K3 C3 l t w1) (h0 : l 13 = false) : AccInv w0 h A c K B d C key cents K3 C3 (upd l 13) (updT t 8 (.pointer (some ⟨w1.heap.size, 0, none⟩))) (w1.alloc (.cells #[.slice none 0 0, .slice none 0 0] 29)) := by
  have i' := i.world ((Same.refl w1).alloc (.cells #[.slice none 0 0, .slice none 0 0] 29))
  have h14 : l 14 = false := by cases h14 : l 14; rfl; rw [(i.d14 h14).2] at h0; cases h0
  refine { i' with d14 := fun h => ⟨(i.d14 h).1, rfl⟩, bk := fun _ => ⟨_, rfl, i.same.size, ?_, fun e => ?_, fun e => ?_⟩ }
  · show BoxAt _ _ _ (bif l 14 then _ else _)
    rw [h14]
    exact BoxAt.new w1 _ [_, _]
  · have := (owns_new i.oK _ e).2; omega
  · have := (owns_new i.oC _ e).2; omega
/-- What the next appends meet. -/
theorem AccInv.row2 (i : AccInv w0 h A c K B d C key cents K3 C3 l t w1) (h2 : l 2 = true) (h5 : l 5 = false) : OwnI w1 w0.heap.size (t 11) K := by have := i.oK; rw [h2, h5] at this; exact this
theorem AccInv.row8 (i : AccInv w0 h A c K B d C key cents K3 C3 l t w1) (h2 : l 8 = true) (h5 : l 11 = false) : OwnI w1 w0.heap.size (t 17) C := by have := i.oC; rw [h2, h5] at this; exact this
theorem AccInv.row5 (i : AccInv w0 h A c K B d C key cents K3 C3 l t w1) (h5 : l 5 = true) : OwnI w1 w0.heap.size (t 14) K3 := by have := i.oK; rw [h5] at this; exact this
theorem AccInv.row11 (i : AccInv w0 h A c K B d C key cents K3 C3 l t w1) (h5 : l 11 = true) : OwnI w1 w0.heap.size (t 20) C3 := by have := i.oC; rw [h5] at this; exact this
theorem AccInv.s5 (i : AccInv w0 h A c K B d C key cents K3 C3 l t w1) (h0 : l 5 = false) (h2 : l 2 = true) {v : Value} (ho : OwnI w2 w0.heap.size v K3) (hg : w1.grownBy w2 (t 11).ownBlock) (hf : From w1 (t 11) v) : AccInv w0 h A c K B d C key cents K3 C3 (upd l 5) (updT t 14 v) w2 := by
  have e0 : vrow (l 2) (l 5) (t 11) (t 14) = t 11 := by rw [h2, h0]; rfl
  have e1 : vrow (upd l 5 2) (upd l 5 5) (updT t 14 v 11) (updT t 14 v 14) = v := rfl
  have hr := i.row2 h2 h0
  have sp := i.sp
  rw [e0] at sp
  have h12 : l 12 = false := by cases h : l 12; rfl; rw [(i.d12 h).1] at h0; cases h0
  have h14 : l 14 = false := by cases h : l 14; rfl; rw [(i.d14 h).1] at h12; cases h12
  have hne : ∀ {g}, g < w1.heap.size → (t 11).ownBlock ≠ some g → v.ownBlock ≠ some g := fun hlt hn e => by
    rcases hf _ e with h | h
    · exact hn h
    · omega
  refine { i with same := grown_same i.same hg (fun g h => (owns_new hr g h).1), a21 := fun h => (by rw [show upd l 5 12 = l 12 from rfl, h12] at h; cases h), d5 := fun _ => h2, d12 := fun h => ⟨rfl, (i.d12 h).2⟩, oK := ho, oC := grown_owns hg i.oC sp, sp := Sep.from_ sp hf i.oC, bK := fun _ h => (by cases h), bC := ?_, bk := ?_ }
  · intro a b
    obtain ⟨g, p1, p2, p3, p4⟩ := i.bC a b
    rw [e0] at p3
    exact ⟨g, p1, grown_box hg p2 p3, hne p2.lt p3, p4⟩
  · intro a
    obtain ⟨g, p1, p2, p3, p4, p5⟩ := i.bk a
    rw [e0] at p4
    rw [h14] at p3
    refine ⟨g, p1, p2, ?_, hne p3.lt p4, p5⟩
    show BoxAt w2 g _ (bif l 14 then _ else _)
    rw [h14]
    exact grown_box hg p3 p4
theorem AccInv.s11 (i : AccInv w0 h A c K B d C key cents K3 C3 l t w1) (h0 : l 11 = false) (h2 : l 8 = true) {v : Value} (ho : OwnI w2 w0.heap.size v C3) (hg : w1.grownBy w2 (t 17).ownBlock) (hf : From w1 (t 17) v) : AccInv w0 h A c K B d C key cents K3 C3 (upd l 11) (updT t 20 v) w2 := by
  have e0 : vrow (l 8) (l 11) (t 17) (t 20) = t 17 := by rw [h2, h0]; rfl
  have hr := i.row8 h2 h0
  have sp := i.sp
  rw [e0] at sp
  have h12 : l 12 = false := by cases h : l 12; rfl; rw [(i.d12 h).2] at h0; cases h0
  have h14 : l 14 = false := by cases h : l 14; rfl; rw [(i.d14 h).1] at h12; cases h12
  have hne : ∀ {g}, g < w1.heap.size → (t 17).ownBlock ≠ some g → v.ownBlock ≠ some g := fun hlt hn e => by
    rcases hf _ e with h | h
    · exact hn h
    · omega
  refine { i with same := grown_same i.same hg (fun g h => (owns_new hr g h).1), a21 := fun h => (by rw [show upd l 11 12 = l 12 from rfl, h12] at h; cases h), d11 := fun _ => h2, d12 := fun h => ⟨(i.d12 h).1, rfl⟩, oC := ho, oK := grown_owns hg i.oK sp.symm, sp := (Sep.from_ sp.symm hf i.oK).symm, bC := fun _ h => (by cases h), bK := ?_, bk := ?_ }
  · intro a b
    obtain ⟨g, p1, p2, p3, p4⟩ := i.bK a b
    rw [e0] at p4
    exact ⟨g, p1, grown_box hg p2 p4, p3, hne p2.lt p4⟩
  · intro a
    obtain ⟨g, p1, p2, p3, p4, p5⟩ := i.bk a
    rw [e0] at p5
    rw [h14] at p3
    refine ⟨g, p1, p2, ?_, p4, hne p3.lt p5⟩
    show BoxAt w2 g _ (bif l 14 then _ else _)
    rw [h14]
    exact grown_box hg p3 p5
/-- The store. -/
theorem AccInv.s14 (i : AccInv w0 h A c K B d C key cents K3 C3 l t w1) (h0 : l 14 = false) (h12 : l 12 = true) (h13 : l 13 = true) {g : Nat} (hg : t 8 = .pointer (some ⟨g, 0, none⟩)) : AccInv w0 h A c K B d C key cents K3 C3 (upd l 14) t ((w1.setCell ⟨g, 0, none⟩ (t 14)).setCell ⟨g, 1, none⟩ (t 20)) := by
  obtain ⟨g', p1, p2, p3, p4, p5⟩ := i.bk h13
  have e : g' = g := by rw [p1] at hg; injection hg with hg; injection hg with hg; injection hg
  subst e
  rw [h0] at p3
  obtain ⟨h5, h11⟩ := i.d12 h12
  refine { i with same := (i.same.setCell p2 _).setCell p2 _, d14 := fun _ => ⟨h12, h13⟩, oK := owns_set (owns_set i.oK p4) p4, oC := owns_set (owns_set i.oC p5) p5, bK := fun _ h => (by rw [show upd l 14 5 = l 5 from rfl, h5] at h; cases h), bC := fun _ h => (by rw [show upd l 14 11 = l 11 from rfl, h11] at h; cases h), bk := fun _ => ⟨g', p1, p2, ?_, p4, p5⟩ }
  exact (p3.set 0 _).set 1 _
/-- All has come up. -/
theorem AccInv.fin (i : AccInv w0 h A c K B d C key cents K3 C3 l t w1) (hl : ∀ k, k < 15 → l k = true) : ∃ (g : Nat) (A3 : Option Addr) (c3 : Nat) (A4 : Option Addr) (c4 : Nat), t 8 = .pointer (some ⟨g, 0, none⟩) ∧ BankAt w1 g w0.heap.size A3 c3 K3 A4 c4 C3 ∧ w0.heap.size ≤ g ∧ Same w0 w1 := by
  obtain ⟨g, p1, p2, p3, p4, p5⟩ := i.bk (hl 13 (by omega))
  have oK := i.oK; have oC := i.oC; have sp := i.sp
  rw [hl 2 (by omega), hl 5 (by omega)] at oK sp p4
  rw [hl 8 (by omega), hl 11 (by omega)] at oC sp p5
  rw [hl 14 (by omega)] at p3
  replace oK : OwnI w1 w0.heap.size (t 14) K3 := oK
  replace oC : OwnI w1 w0.heap.size (t 20) C3 := oC
  replace sp : Sep (t 14) (t 20) := sp
  replace p4 : (t 14).ownBlock ≠ some g := p4
  replace p5 : (t 20).ownBlock ≠ some g := p5
  replace p3 : BoxAt w1 g 29 [t 14, t 20] := p3
  obtain ⟨A3, c3, e3⟩ := oK.form
  obtain ⟨A4, c4, e4⟩ := oC.form
  rw [e3] at oK sp p3 p4
  rw [e4] at oC sp p3 p5
  exact ⟨g, A3, c3, A4, c4, p1, ⟨p3, oK, oC, sp, p4, p5⟩, p2, i.same⟩
end
end Go.Proofs.Ytccgbilgfnoheaa
