/-
  What has come up of 'a run and a bank are copied, a function is called, its results are laid into boxes': an invariant over every order.
-/
import Derived.Test.YtccgbilgfnoheaaCrash
namespace Go.Proofs.Ytccgbilgfnoheaa
open Go.RowKit
set_option linter.unusedVariables false

structure RBRes where
  A : Option Addr
  c : Nat
  B : Option Addr
  d : Nat
  D : Option Addr
  f : Nat
def RBRes.it (ρ : RBRes) (L : List TItem) : Value := .slice ρ.A L.length ρ.c
def RBRes.ks (ρ : RBRes) (K : List Int) : Value := .slice ρ.B K.length ρ.d
def RBRes.cs (ρ : RBRes) (C : List Int) : Value := .slice ρ.D C.length ρ.f
def RBRes.run (ρ : RBRes) (m : Int) (L : List TItem) : Value := .agg #[.int .i64 m, .slice ρ.A L.length ρ.c]
def RBRes.bank (ρ : RBRes) (K C : List Int) : Value := .agg #[.slice ρ.B K.length ρ.d, .slice ρ.D C.length ρ.f]

/-- The results' rows are apart from this block. -/
def RBRes.far (ρ : RBRes) (L : List TItem) (K C : List Int) (g : Nat) : Prop := (ρ.it L).ownBlock ≠ some g ∧ (ρ.ks K).ownBlock ≠ some g ∧ (ρ.cs C).ownBlock ≠ some g
structure RBOwn (w1 : World) (base : Nat) (L : List TItem) (K C : List Int) (ρ : RBRes) : Prop where
  it : OwnItem w1 base (ρ.it L) L
  ks : OwnI w1 base (ρ.ks K) K
  cs : OwnI w1 base (ρ.cs C) C
  s1 : Sep (ρ.it L) (ρ.ks K)
  s2 : Sep (ρ.it L) (ρ.cs C)
  s3 : Sep (ρ.ks K) (ρ.cs C)
theorem RBOwn.same {w1 w2 : World} {base : Nat} {L : List TItem} {K C : List Int} {ρ : RBRes} (h : RBOwn w1 base L K C ρ) (hs : Same w1 w2) : RBOwn w2 base L K C ρ := ⟨h.it.same hs, h.ks.same hs, h.cs.same hs, h.s1, h.s2, h.s3⟩
theorem RBOwn.set {w1 : World} {base : Nat} {L : List TItem} {K C : List Int} {ρ : RBRes} (h : RBOwn w1 base L K C ρ) {g : Nat} (hf : ρ.far L K C g) (j : Nat) (u : Value) : RBOwn (w1.setCell ⟨g, j, none⟩ u) base L K C ρ :=
  ⟨owns_set h.it hf.1, owns_set h.ks hf.2.1, owns_set h.cs hf.2.2, h.s1, h.s2, h.s3⟩
theorem RBOwn.lt {w1 : World} {base : Nat} {L : List TItem} {K C : List Int} {ρ : RBRes} (h : RBOwn w1 base L K C ρ) : ρ.far L K C w1.heap.size :=
  ⟨fun e => Nat.lt_irrefl _ (owns_new h.it _ e).2, fun e => Nat.lt_irrefl _ (owns_new h.ks _ e).2, fun e => Nat.lt_irrefl _ (owns_new h.cs _ e).2⟩
theorem RBOwn.new {w1 : World} {base : Nat} {L : List TItem} {K C : List Int} {ρ : RBRes} (h : RBOwn w1 base L K C ρ) {g : Nat} (hg : g < base) : ρ.far L K C g :=
  ⟨fun e => by have := (owns_new h.it _ e).1; omega, fun e => by have := (owns_new h.ks _ e).1; omega, fun e => by have := (owns_new h.cs _ e).1; omega⟩
theorem RBOwn.base {w1 : World} {base base' : Nat} {L : List TItem} {K C : List Int} {ρ : RBRes} (h : RBOwn w1 base L K C ρ) (hb : base' ≤ base) : RBOwn w1 base' L K C ρ := ⟨h.it.rebase hb, h.ks.base hb, h.cs.base hb, h.s1, h.s2, h.s3⟩

structure RBInv (wi : World) (XR XB XM : Value) (r0 : Int) (r1 : List TItem) (b0 b1 : List Int) (m : Int) (L : List TItem) (K C : List Int) (x : Value) (tup : RBRes → Value)
    (lr cr lb cb mv fc mt e0 e1 e2 ar ab sr sb as_ : Bool) (vlr vcr vlb vcb vmv vF vmt ve0 ve1 ve2 var vab vas : Value) (w1 : World) : Prop where
  same : Same wi w1
  hlr : lr = true → vlr = XR
  hlb : lb = true → vlb = XB
  hmv : mv = true → vmv = XM
  hcr : cr = true → fc = false → ∃ A c, vcr = .agg #[.int .i64 r0, .slice A r1.length c] ∧ OwnItem w1 wi.heap.size (.slice A r1.length c) r1
  hcb : cb = true → fc = false → ∃ B d D f, vcb = .agg #[.slice B b0.length d, .slice D b1.length f] ∧ OwnI w1 wi.heap.size (.slice B b0.length d) b0 ∧ OwnI w1 wi.heap.size (.slice D b1.length f) b1
  pre : fc = false → mt = false ∧ e0 = false ∧ e1 = false ∧ e2 = false ∧ sr = false ∧ sb = false ∧ as_ = false
  hF : fc = true → ∃ ρ : RBRes, vF = tup ρ ∧ (mt = true → vmt = tup ρ) ∧ (e0 = true → ve0 = ρ.run m L) ∧ (e1 = true → ve1 = ρ.bank K C) ∧ (e2 = true → ve2 = x) ∧ (as_ = true → vas = x) ∧ RBOwn w1 wi.heap.size L K C ρ ∧
    (∀ g, ar = true → var = .pointer (some ⟨g, 0, none⟩) → ρ.far L K C g) ∧ (∀ g, ab = true → vab = .pointer (some ⟨g, 0, none⟩) → ρ.far L K C g) ∧
    (sr = true → ∃ g, var = .pointer (some ⟨g, 0, none⟩) ∧ BoxAt w1 g 26 [.int .i64 m, ρ.it L]) ∧ (sb = true → ∃ g, vab = .pointer (some ⟨g, 0, none⟩) ∧ BoxAt w1 g 29 [ρ.ks K, ρ.cs C])
  har : ar = true → ∃ g, var = .pointer (some ⟨g, 0, none⟩) ∧ wi.heap.size ≤ g ∧ g < w1.heap.size ∧ (sr = false → BoxAt w1 g 26 [.int .i64 0, .slice none 0 0])
  hab : ab = true → ∃ g, vab = .pointer (some ⟨g, 0, none⟩) ∧ wi.heap.size ≤ g ∧ g < w1.heap.size ∧ (sb = false → BoxAt w1 g 29 [.slice none 0 0, .slice none 0 0])
  hne : ar = true → ab = true → var ≠ vab
  dr : sr = true → ar = true
  db : sb = true → ab = true

section
variable {wi : World} {XR XB XM : Value} {r0 : Int} {r1 : List TItem} {b0 b1 : List Int} {m : Int} {L : List TItem} {K C : List Int} {x : Value} {tup : RBRes → Value}
    {lr cr lb cb mv fc mt e0 e1 e2 ar ab sr sb as_ : Bool} {vlr vcr vlb vcb vmv vF vmt ve0 ve1 ve2 var vab vas : Value} {w1 w2 : World}
theorem RBInv.start (hs : Same wi w1) : RBInv wi XR XB XM r0 r1 b0 b1 m L K C x tup false false false false false false false false false false false false false false false vlr vcr vlb vcb vmv vF vmt ve0 ve1 ve2 var vab vas w1 := by
  constructor <;> first | exact hs | (intro h; cases h; done) | exact fun _ => ⟨rfl, rfl, rfl, rfl, rfl, rfl, rfl⟩
theorem RBInv.world (i : RBInv wi XR XB XM r0 r1 b0 b1 m L K C x tup lr cr lb cb mv fc mt e0 e1 e2 ar ab sr sb as_ vlr vcr vlb vcb vmv vF vmt ve0 ve1 ve2 var vab vas w1) (hs : Same w1 w2) : RBInv wi XR XB XM r0 r1 b0 b1 m L K C x tup lr cr lb cb mv fc mt e0 e1 e2 ar ab sr sb as_ vlr vcr vlb vcb vmv vF vmt ve0 ve1 ve2 var vab vas w2 := by
  refine { i with same := i.same.trans hs, hcr := ?_, hcb := ?_, hF := ?_, har := ?_, hab := ?_ }
  · intro a b; obtain ⟨A, c, h1, h2⟩ := i.hcr a b; exact ⟨A, c, h1, h2.same hs⟩
  · intro a b; obtain ⟨B, d, D, f, h1, h2, h3⟩ := i.hcb a b; exact ⟨B, d, D, f, h1, h2.same hs, h3.same hs⟩
  · intro a
    obtain ⟨ρ, h1, h2, h3, h4, h5, h6, h7, h8, h9, h10, h11⟩ := i.hF a
    exact ⟨ρ, h1, h2, h3, h4, h5, h6, h7.same hs, h8, h9, fun a => (by obtain ⟨g, p, q⟩ := h10 a; exact ⟨g, p, q.same hs⟩), fun a => (by obtain ⟨g, p, q⟩ := h11 a; exact ⟨g, p, q.same hs⟩)⟩
  · intro a; obtain ⟨g, h1, h2, h3, h4⟩ := i.har a; exact ⟨g, h1, h2, Nat.lt_of_lt_of_le h3 hs.size, fun a => (h4 a).same hs⟩
  · intro a; obtain ⟨g, h1, h2, h3, h4⟩ := i.hab a; exact ⟨g, h1, h2, Nat.lt_of_lt_of_le h3 hs.size, fun a => (h4 a).same hs⟩
theorem RBInv.s_lr (i : RBInv wi XR XB XM r0 r1 b0 b1 m L K C x tup lr cr lb cb mv fc mt e0 e1 e2 ar ab sr sb as_ vlr vcr vlb vcb vmv vF vmt ve0 ve1 ve2 var vab vas w1) : RBInv wi XR XB XM r0 r1 b0 b1 m L K C x tup true cr lb cb mv fc mt e0 e1 e2 ar ab sr sb as_ XR vcr vlb vcb vmv vF vmt ve0 ve1 ve2 var vab vas w1 := { i with hlr := fun _ => rfl }
theorem RBInv.s_lb (i : RBInv wi XR XB XM r0 r1 b0 b1 m L K C x tup lr cr lb cb mv fc mt e0 e1 e2 ar ab sr sb as_ vlr vcr vlb vcb vmv vF vmt ve0 ve1 ve2 var vab vas w1) : RBInv wi XR XB XM r0 r1 b0 b1 m L K C x tup lr cr true cb mv fc mt e0 e1 e2 ar ab sr sb as_ vlr vcr XB vcb vmv vF vmt ve0 ve1 ve2 var vab vas w1 := { i with hlb := fun _ => rfl }
theorem RBInv.s_mv (i : RBInv wi XR XB XM r0 r1 b0 b1 m L K C x tup lr cr lb cb mv fc mt e0 e1 e2 ar ab sr sb as_ vlr vcr vlb vcb vmv vF vmt ve0 ve1 ve2 var vab vas w1) : RBInv wi XR XB XM r0 r1 b0 b1 m L K C x tup lr cr lb cb true fc mt e0 e1 e2 ar ab sr sb as_ vlr vcr vlb vcb XM vF vmt ve0 ve1 ve2 var vab vas w1 := { i with hmv := fun _ => rfl }
theorem RBInv.s_cr (i : RBInv wi XR XB XM r0 r1 b0 b1 m L K C x tup lr cr lb cb mv fc mt e0 e1 e2 ar ab sr sb as_ vlr vcr vlb vcb vmv vF vmt ve0 ve1 ve2 var vab vas w1) {A : Option Addr} {c : Nat} (ho : OwnItem w2 w1.heap.size (.slice A r1.length c) r1) (hs : Same w1 w2) : RBInv wi XR XB XM r0 r1 b0 b1 m L K C x tup lr true lb cb mv fc mt e0 e1 e2 ar ab sr sb as_ vlr (.agg #[.int .i64 r0, .slice A r1.length c]) vlb vcb vmv vF vmt ve0 ve1 ve2 var vab vas w2 :=
  { i.world hs with hcr := fun _ _ => ⟨A, c, rfl, ho.rebase i.same.size⟩ }
theorem RBInv.s_cb (i : RBInv wi XR XB XM r0 r1 b0 b1 m L K C x tup lr cr lb cb mv fc mt e0 e1 e2 ar ab sr sb as_ vlr vcr vlb vcb vmv vF vmt ve0 ve1 ve2 var vab vas w1) {B D : Option Addr} {d f : Nat} (ho : OwnI w2 w1.heap.size (.slice B b0.length d) b0) (hp : OwnI w2 w1.heap.size (.slice D b1.length f) b1) (hs : Same w1 w2) : RBInv wi XR XB XM r0 r1 b0 b1 m L K C x tup lr cr lb true mv fc mt e0 e1 e2 ar ab sr sb as_ vlr vcr vlb (.agg #[.slice B b0.length d, .slice D b1.length f]) vmv vF vmt ve0 ve1 ve2 var vab vas w2 :=
  { i.world hs with hcb := fun _ _ => ⟨B, d, D, f, rfl, ho.base i.same.size, hp.base i.same.size⟩ }
theorem RBInv.s_fc (i : RBInv wi XR XB XM r0 r1 b0 b1 m L K C x tup lr cr lb cb mv fc mt e0 e1 e2 ar ab sr sb as_ vlr vcr vlb vcb vmv vF vmt ve0 ve1 ve2 var vab vas w1) (h0 : fc = false) (ρ : RBRes) (ho : RBOwn w2 w1.heap.size L K C ρ) (hs : Same w1 w2) : RBInv wi XR XB XM r0 r1 b0 b1 m L K C x tup lr cr lb cb mv true mt e0 e1 e2 ar ab sr sb as_ vlr vcr vlb vcb vmv (tup ρ) vmt ve0 ve1 ve2 var vab vas w2 := by
  obtain ⟨p1, p2, p3, p4, p5, p6, p7⟩ := i.pre h0
  have i' := i.world hs
  refine { i' with hcr := fun _ h => (by cases h), hcb := fun _ h => (by cases h), pre := fun h => (by cases h), hF := fun _ => ⟨ρ, rfl, fun h => ?_, fun h => ?_, fun h => ?_, fun h => ?_, fun h => ?_, ho.base i.same.size, fun g ha hg => ?_, fun g ha hg => ?_, fun h => ?_, fun h => ?_⟩ }
  · rw [p1] at h; cases h
  · rw [p2] at h; cases h
  · rw [p3] at h; cases h
  · rw [p4] at h; cases h
  · rw [p7] at h; cases h
  · obtain ⟨g', q1, q2, q3, q4⟩ := i.har ha
    rw [hg] at q1; injection q1 with q1; injection q1 with q1; injection q1 with q1; subst q1
    exact ho.new q3
  · obtain ⟨g', q1, q2, q3, q4⟩ := i.hab ha
    rw [hg] at q1; injection q1 with q1; injection q1 with q1; injection q1 with q1; subst q1
    exact ho.new q3
  · rw [p5] at h; cases h
  · rw [p6] at h; cases h
theorem RBInv.s_mt (i : RBInv wi XR XB XM r0 r1 b0 b1 m L K C x tup lr cr lb cb mv fc mt e0 e1 e2 ar ab sr sb as_ vlr vcr vlb vcb vmv vF vmt ve0 ve1 ve2 var vab vas w1) (h : fc = true) : RBInv wi XR XB XM r0 r1 b0 b1 m L K C x tup lr cr lb cb mv fc true e0 e1 e2 ar ab sr sb as_ vlr vcr vlb vcb vmv vF vF ve0 ve1 ve2 var vab vas w1 := by
  refine { i with pre := fun h' => absurd (h.symm.trans h') (by simp), hF := fun a => ?_ }
  obtain ⟨ρ, h1, h2, r⟩ := i.hF a
  exact ⟨ρ, h1, fun _ => h1, r⟩
theorem RBInv.s_e0 (i : RBInv wi XR XB XM r0 r1 b0 b1 m L K C x tup lr cr lb cb mv fc mt e0 e1 e2 ar ab sr sb as_ vlr vcr vlb vcb vmv vF vmt ve0 ve1 ve2 var vab vas w1) (h : fc = true) (ρ : RBRes) (hρ : vF = tup ρ) (hi : ∀ ρ', tup ρ' = tup ρ → ρ'.run m L = ρ.run m L) : RBInv wi XR XB XM r0 r1 b0 b1 m L K C x tup lr cr lb cb mv fc mt true e1 e2 ar ab sr sb as_ vlr vcr vlb vcb vmv vF vmt (ρ.run m L) ve1 ve2 var vab vas w1 := by
  refine { i with pre := fun h' => absurd (h.symm.trans h') (by simp), hF := fun a => ?_ }
  obtain ⟨ρ', h1, h2, h3, r⟩ := i.hF a
  exact ⟨ρ', h1, h2, fun _ => (hi ρ' (h1.symm.trans hρ)).symm, r⟩
theorem RBInv.s_e1 (i : RBInv wi XR XB XM r0 r1 b0 b1 m L K C x tup lr cr lb cb mv fc mt e0 e1 e2 ar ab sr sb as_ vlr vcr vlb vcb vmv vF vmt ve0 ve1 ve2 var vab vas w1) (h : fc = true) (ρ : RBRes) (hρ : vF = tup ρ) (hi : ∀ ρ', tup ρ' = tup ρ → ρ'.bank K C = ρ.bank K C) : RBInv wi XR XB XM r0 r1 b0 b1 m L K C x tup lr cr lb cb mv fc mt e0 true e2 ar ab sr sb as_ vlr vcr vlb vcb vmv vF vmt ve0 (ρ.bank K C) ve2 var vab vas w1 := by
  refine { i with pre := fun h' => absurd (h.symm.trans h') (by simp), hF := fun a => ?_ }
  obtain ⟨ρ', h1, h2, h3, h4, r⟩ := i.hF a
  exact ⟨ρ', h1, h2, h3, fun _ => (hi ρ' (h1.symm.trans hρ)).symm, r⟩
theorem RBInv.s_e2 (i : RBInv wi XR XB XM r0 r1 b0 b1 m L K C x tup lr cr lb cb mv fc mt e0 e1 e2 ar ab sr sb as_ vlr vcr vlb vcb vmv vF vmt ve0 ve1 ve2 var vab vas w1) (h : fc = true) : RBInv wi XR XB XM r0 r1 b0 b1 m L K C x tup lr cr lb cb mv fc mt e0 e1 true ar ab sr sb as_ vlr vcr vlb vcb vmv vF vmt ve0 ve1 x var vab vas w1 := by
  refine { i with pre := fun h' => absurd (h.symm.trans h') (by simp), hF := fun a => ?_ }
  obtain ⟨ρ', h1, h2, h3, h4, h5, r⟩ := i.hF a
  exact ⟨ρ', h1, h2, h3, h4, fun _ => rfl, r⟩
theorem RBInv.s_as (i : RBInv wi XR XB XM r0 r1 b0 b1 m L K C x tup lr cr lb cb mv fc mt e0 e1 e2 ar ab sr sb as_ vlr vcr vlb vcb vmv vF vmt ve0 ve1 ve2 var vab vas w1) (h : fc = true) : RBInv wi XR XB XM r0 r1 b0 b1 m L K C x tup lr cr lb cb mv fc mt e0 e1 e2 ar ab sr sb true vlr vcr vlb vcb vmv vF vmt ve0 ve1 ve2 var vab x w1 := by
  refine { i with pre := fun h' => absurd (h.symm.trans h') (by simp), hF := fun a => ?_ }
  obtain ⟨ρ', h1, h2, h3, h4, h5, h6, r⟩ := i.hF a
  exact ⟨ρ', h1, h2, h3, h4, h5, fun _ => rfl, r⟩
theorem ptr_inj {g g' : Nat} (h : Value.pointer (some ⟨g, 0, none⟩) = .pointer (some ⟨g', 0, none⟩)) : g = g' := by
  injection h with h; injection h with h; injection h
theorem RBInv.s_ar (i : RBInv wi XR XB XM r0 r1 b0 b1 m L K C x tup lr cr lb cb mv fc mt e0 e1 e2 ar ab sr sb as_ vlr vcr vlb vcb vmv vF vmt ve0 ve1 ve2 var vab vas w1) (h0 : ar = false) : RBInv wi XR XB XM r0 r1 b0 b1 m L K C x tup lr cr lb cb mv fc mt e0 e1 e2 true ab sr sb as_ vlr vcr vlb vcb vmv vF vmt ve0 ve1 ve2 (.pointer (some ⟨w1.heap.size, 0, none⟩)) vab vas (w1.alloc (.cells #[.int .i64 0, .slice none 0 0] 26)) := by
  have hr : sr = false := by cases h : sr; rfl; rw [i.dr h] at h0; cases h0
  have hs := (Same.refl w1).alloc (.cells #[.int .i64 0, .slice none 0 0] 26)
  have i' := i.world hs
  refine { i' with hF := fun a => ?_, har := fun _ => ⟨_, rfl, i.same.size, by simp, fun _ => BoxAt.new w1 _ [_, _]⟩, hne := fun _ hb e => ?_, dr := fun _ => rfl }
  · obtain ⟨ρ, k1, k2, k3, k4, k5, k6, k7, k8, k9, k10, k11⟩ := i.hF a
    refine ⟨ρ, k1, k2, k3, k4, k5, k6, k7.same hs, fun g _ hg => ?_, k9, fun h => (by rw [hr] at h; cases h), fun h => ?_⟩
    · rw [← ptr_inj hg]; exact k7.lt
    · obtain ⟨g, p, q⟩ := k11 h; exact ⟨g, p, q.same hs⟩
  · obtain ⟨g', p1, _, p3, _⟩ := i.hab hb
    have := ptr_inj (e.trans p1)
    omega
theorem RBInv.s_ab (i : RBInv wi XR XB XM r0 r1 b0 b1 m L K C x tup lr cr lb cb mv fc mt e0 e1 e2 ar ab sr sb as_ vlr vcr vlb vcb vmv vF vmt ve0 ve1 ve2 var vab vas w1) (h0 : ab = false) : RBInv wi XR XB XM r0 r1 b0 b1 m L K C x tup lr cr lb cb mv fc mt e0 e1 e2 ar true sr sb as_ vlr vcr vlb vcb vmv vF vmt ve0 ve1 ve2 var (.pointer (some ⟨w1.heap.size, 0, none⟩)) vas (w1.alloc (.cells #[.slice none 0 0, .slice none 0 0] 29)) := by
  have hr : sb = false := by cases h : sb; rfl; rw [i.db h] at h0; cases h0
  have hs := (Same.refl w1).alloc (.cells #[.slice none 0 0, .slice none 0 0] 29)
  have i' := i.world hs
  refine { i' with hF := fun a => ?_, hab := fun _ => ⟨_, rfl, i.same.size, by simp, fun _ => BoxAt.new w1 _ [_, _]⟩, hne := fun ha _ e => ?_, db := fun _ => rfl }
  · obtain ⟨ρ, k1, k2, k3, k4, k5, k6, k7, k8, k9, k10, k11⟩ := i.hF a
    refine ⟨ρ, k1, k2, k3, k4, k5, k6, k7.same hs, k8, fun g _ hg => ?_, fun h => ?_, fun h => (by rw [hr] at h; cases h)⟩
    · rw [← ptr_inj hg]; exact k7.lt
    · obtain ⟨g, p, q⟩ := k10 h; exact ⟨g, p, q.same hs⟩
  · obtain ⟨g', p1, _, p3, _⟩ := i.har ha
    have := ptr_inj (p1.symm.trans e)
    omega
theorem RBInv.s_sr (i : RBInv wi XR XB XM r0 r1 b0 b1 m L K C x tup lr cr lb cb mv fc mt e0 e1 e2 ar ab sr sb as_ vlr vcr vlb vcb vmv vF vmt ve0 ve1 ve2 var vab vas w1) (h : e0 = true) (hf : fc = true) (ha : ar = true) {g : Nat} (hg : var = .pointer (some ⟨g, 0, none⟩)) {ρ : RBRes} (h0 : sr = false) (hρ : ve0 = ρ.run m L) : RBInv wi XR XB XM r0 r1 b0 b1 m L K C x tup lr cr lb cb mv fc mt e0 e1 e2 ar ab true sb as_ vlr vcr vlb vcb vmv vF vmt ve0 ve1 ve2 var vab vas ((w1.setCell ⟨g, 0, none⟩ (.int .i64 m)).setCell ⟨g, 1, none⟩ (ρ.it L)) := by
  obtain ⟨g', p1, p2, p3, p4⟩ := i.har ha
  have := ptr_inj (p1.symm.trans hg); subst this
  have hs : Same wi ((w1.setCell ⟨g', 0, none⟩ (.int .i64 m)).setCell ⟨g', 1, none⟩ (ρ.it L)) := (i.same.setCell p2 _).setCell p2 _
  obtain ⟨ρ', k1, k2, k3, k4, k5, k6, k7, k8, k9, k10, k11⟩ := i.hF hf
  have er : ρ'.it L = ρ.it L := by
    have := (k3 h).symm.trans hρ
    unfold RBRes.run at this
    injection this with this
    simp at this
    unfold RBRes.it; rw [this.1, this.2]
  have fr := k8 _ ha p1
  refine { i with same := hs, hcr := fun _ a => absurd (hf.symm.trans a) (by simp), hcb := fun _ a => absurd (hf.symm.trans a) (by simp), pre := fun a => absurd (hf.symm.trans a) (by simp), hF := fun _ => ?_, har := fun _ => ⟨g', p1, p2, by simpa using p3, fun a => (by cases a)⟩, hab := fun hb => ?_, dr := fun _ => ha }
  · refine ⟨ρ', k1, k2, k3, k4, k5, k6, (k7.set fr _ _).set fr _ _, k8, k9, fun _ => ⟨g', p1, ?_⟩, fun hb => ?_⟩
    · rw [er]
      exact ((p4 h0).set 0 _).set 1 _
    · obtain ⟨gb, q1, q2⟩ := k11 hb
      have hn : gb ≠ g' := fun e => i.hne ha (i.db hb) (by rw [p1, q1, e])
      exact ⟨gb, q1, (q2.other _ hn).other _ hn⟩
  · obtain ⟨gb, q1, q2, q3, q4⟩ := i.hab hb
    have hn : gb ≠ g' := fun e => i.hne ha hb (by rw [p1, q1, e])
    exact ⟨gb, q1, q2, by simpa using q3, fun a => ((q4 a).other _ hn).other _ hn⟩
theorem RBInv.s_sb (i : RBInv wi XR XB XM r0 r1 b0 b1 m L K C x tup lr cr lb cb mv fc mt e0 e1 e2 ar ab sr sb as_ vlr vcr vlb vcb vmv vF vmt ve0 ve1 ve2 var vab vas w1) (h : e1 = true) (hf : fc = true) (ha : ab = true) {g : Nat} (hg : vab = .pointer (some ⟨g, 0, none⟩)) {ρ : RBRes} (h0 : sb = false) (hρ : ve1 = ρ.bank K C) : RBInv wi XR XB XM r0 r1 b0 b1 m L K C x tup lr cr lb cb mv fc mt e0 e1 e2 ar ab sr true as_ vlr vcr vlb vcb vmv vF vmt ve0 ve1 ve2 var vab vas ((w1.setCell ⟨g, 0, none⟩ (ρ.ks K)).setCell ⟨g, 1, none⟩ (ρ.cs C)) := by
  obtain ⟨g', p1, p2, p3, p4⟩ := i.hab ha
  have := ptr_inj (p1.symm.trans hg); subst this
  have hs : Same wi ((w1.setCell ⟨g', 0, none⟩ (ρ.ks K)).setCell ⟨g', 1, none⟩ (ρ.cs C)) := (i.same.setCell p2 _).setCell p2 _
  obtain ⟨ρ', k1, k2, k3, k4, k5, k6, k7, k8, k9, k10, k11⟩ := i.hF hf
  have er : ρ'.ks K = ρ.ks K ∧ ρ'.cs C = ρ.cs C := by
    have := (k4 h).symm.trans hρ
    unfold RBRes.bank at this
    injection this with this
    simp at this
    unfold RBRes.ks RBRes.cs; rw [this.1.1, this.1.2, this.2.1, this.2.2]; exact ⟨rfl, rfl⟩
  have fr := k9 _ ha p1
  refine { i with same := hs, hcr := fun _ a => absurd (hf.symm.trans a) (by simp), hcb := fun _ a => absurd (hf.symm.trans a) (by simp), pre := fun a => absurd (hf.symm.trans a) (by simp), hF := fun _ => ?_, hab := fun _ => ⟨g', p1, p2, by simpa using p3, fun a => (by cases a)⟩, har := fun hb => ?_, db := fun _ => ha }
  · refine ⟨ρ', k1, k2, k3, k4, k5, k6, (k7.set fr _ _).set fr _ _, k8, k9, fun hb => ?_, fun _ => ⟨g', p1, ?_⟩⟩
    · obtain ⟨gb, q1, q2⟩ := k10 hb
      have hn : gb ≠ g' := fun e => i.hne (i.dr hb) ha (by rw [p1, q1, e])
      exact ⟨gb, q1, (q2.other _ hn).other _ hn⟩
    · rw [er.1, er.2]
      exact ((p4 h0).set 0 _).set 1 _
  · obtain ⟨gb, q1, q2, q3, q4⟩ := i.har hb
    have hn : gb ≠ g' := fun e => i.hne hb ha (by rw [p1, q1, e])
    exact ⟨gb, q1, q2, by simpa using q3, fun a => ((q4 a).other _ hn).other _ hn⟩
/-- All has come up. -/
def RBFin (wi : World) (m : Int) (L : List TItem) (K C : List Int) (var vab : Value) (w1 : World) : Prop :=
  ∃ (gr gb : Nat) (A : Option Addr) (c : Nat) (B : Option Addr) (d : Nat) (D : Option Addr) (f : Nat), var = .pointer (some ⟨gr, 0, none⟩) ∧ vab = .pointer (some ⟨gb, 0, none⟩) ∧ BoxAt w1 gr 26 [.int .i64 m, .slice A L.length c] ∧ BoxAt w1 gb 29 [.slice B K.length d, .slice D C.length f] ∧
    OwnItem w1 wi.heap.size (.slice A L.length c) L ∧ OwnI w1 wi.heap.size (.slice B K.length d) K ∧ OwnI w1 wi.heap.size (.slice D C.length f) C ∧ Sep (.slice A L.length c) (.slice B K.length d) ∧ Sep (.slice A L.length c) (.slice D C.length f) ∧ Sep (.slice B K.length d) (.slice D C.length f) ∧
    (Value.slice A L.length c).ownBlock ≠ some gr ∧ (Value.slice B K.length d).ownBlock ≠ some gr ∧ (Value.slice D C.length f).ownBlock ≠ some gr ∧ (Value.slice A L.length c).ownBlock ≠ some gb ∧ (Value.slice B K.length d).ownBlock ≠ some gb ∧ (Value.slice D C.length f).ownBlock ≠ some gb ∧
    gr ≠ gb ∧ wi.heap.size ≤ gr ∧ wi.heap.size ≤ gb ∧ Same wi w1
theorem RBInv.f_mt (i : RBInv wi XR XB XM r0 r1 b0 b1 m L K C x tup lr cr lb cb mv fc mt e0 e1 e2 ar ab sr sb as_ vlr vcr vlb vcb vmv vF vmt ve0 ve1 ve2 var vab vas w1) (h : mt = true) : fc = true := by
  cases hf : fc
  · have := (i.pre hf).1; rw [h] at this; cases this
  · rfl
theorem RBInv.f_e0 (i : RBInv wi XR XB XM r0 r1 b0 b1 m L K C x tup lr cr lb cb mv fc mt e0 e1 e2 ar ab sr sb as_ vlr vcr vlb vcb vmv vF vmt ve0 ve1 ve2 var vab vas w1) (h : e0 = true) : fc = true := by
  cases hf : fc
  · have := (i.pre hf).2.1; rw [h] at this; cases this
  · rfl
theorem RBInv.f_e1 (i : RBInv wi XR XB XM r0 r1 b0 b1 m L K C x tup lr cr lb cb mv fc mt e0 e1 e2 ar ab sr sb as_ vlr vcr vlb vcb vmv vF vmt ve0 ve1 ve2 var vab vas w1) (h : e1 = true) : fc = true := by
  cases hf : fc
  · have := (i.pre hf).2.2.1; rw [h] at this; cases this
  · rfl
theorem RBInv.f_e2 (i : RBInv wi XR XB XM r0 r1 b0 b1 m L K C x tup lr cr lb cb mv fc mt e0 e1 e2 ar ab sr sb as_ vlr vcr vlb vcb vmv vF vmt ve0 ve1 ve2 var vab vas w1) (h : e2 = true) : fc = true := by
  cases hf : fc
  · have := (i.pre hf).2.2.2.1; rw [h] at this; cases this
  · rfl
theorem RBInv.fin (i : RBInv wi XR XB XM r0 r1 b0 b1 m L K C x tup lr cr lb cb mv fc mt e0 e1 e2 ar ab sr sb as_ vlr vcr vlb vcb vmv vF vmt ve0 ve1 ve2 var vab vas w1) (h1 : fc = true) (h2 : ar = true) (h3 : ab = true) (h4 : sr = true) (h5 : sb = true) : RBFin wi m L K C var vab w1 ∧ (as_ = true → vas = x) := by
  subst h1 h2 h3 h4 h5
  obtain ⟨ρ, k1, k2, k3, k4, k5, k6, k7, k8, k9, k10, k11⟩ := i.hF rfl
  obtain ⟨gr, q1, q2⟩ := k10 rfl
  obtain ⟨gb, q3, q4⟩ := k11 rfl
  have fr := k8 _ rfl q1
  have fb := k9 _ rfl q3
  obtain ⟨g1, z1, z2, _⟩ := i.har rfl
  have := ptr_inj (z1.symm.trans q1); subst this
  obtain ⟨g2, y1, y2, _⟩ := i.hab rfl
  have := ptr_inj (y1.symm.trans q3); subst this
  exact ⟨⟨g1, g2, ρ.A, ρ.c, ρ.B, ρ.d, ρ.D, ρ.f, q1, q3, q2, q4, k7.it, k7.ks, k7.cs, k7.s1, k7.s2, k7.s3, fr.1, fr.2.1, fr.2.2, fb.1, fb.2.1, fb.2.2, fun e => i.hne rfl rfl (by rw [q1, q3, e]), z2, y2, i.same⟩, k6⟩
end
end Go.Proofs.Ytccgbilgfnoheaa
