/-
  Words for Finish: what becomes of the two boxes.
-/
import Derived.Test.YtccgbilgfnoheaaPlanFin
import Derived.Test.YtccgbilgfnoheaaSendS
import Derived.Test.YtccgbilgfnoheaaSendI
namespace Go.Proofs.Ytccgbilgfnoheaa
open Go.RowKit
set_option linter.unusedVariables false
set_option linter.unnecessarySimpa false

/-- The run is laid anew. -/
theorem SendSt.newRun {w0 w w' : World} {base gr gb : Nat} {m : Int} {L L' : List TItem} {K C : List Int} {A : Option Addr} {c : Nat} {B : Option Addr} {d : Nat} {D : Option Addr} {f : Nat} {A' : Option Addr} {c' : Nat}
    (h : SendSt w0 w base gr gb m L K C ⟨A, c, B, d, D, f⟩) (hs : Same w w') (ho : OwnItem w' w.heap.size (.slice A' L'.length c') L') :
    SendSt w0 ((w'.setCell ⟨gr, 0, none⟩ (.int .i64 m)).setCell ⟨gr, 1, none⟩ (.slice A' L'.length c')) base gr gb m L' K C ⟨A', c', B, d, D, f⟩ := by
  have lr := h.run.lt
  have lb := h.bank.lt
  have n1 : (Value.slice A' L'.length c').ownBlock ≠ some gr := fun e => by have := (owns_new ho _ e).1; omega
  have n2 : (Value.slice A' L'.length c').ownBlock ≠ some gb := fun e => by have := (owns_new ho _ e).1; omega
  have hb := h.bs
  have sz := hs.size
  refine ⟨((h.run.same hs).set 0 _).set 1 _, ((h.bank.same hs).other _ (Ne.symm h.ne)).other _ (Ne.symm h.ne), ⟨owns_set (owns_set (ho.rebase hb) n1) n1, owns_set (owns_set (h.own.ks.same hs) h.fr.2.1) h.fr.2.1, owns_set (owns_set (h.own.cs.same hs) h.fr.2.2) h.fr.2.2, fun g h1 h2 => ?_, fun g h1 h2 => ?_, h.own.s3⟩,
    ⟨n1, h.fr.2.1, h.fr.2.2⟩, ⟨n2, h.fb.2.1, h.fb.2.2⟩, h.ne, ((h.same.trans hs).setCell h.l1 _).setCell h.l1 _, h.l1, h.l2, h.lb, by simp; omega⟩
  · have := (owns_new ho g h1).1; have := (owns_new h.own.ks g h2).2; omega
  · have := (owns_new ho g h1).1; have := (owns_new h.own.cs g h2).2; omega
/-- Both are laid anew. -/
theorem SendSt.newAll {w0 w w' : World} {base gr gb : Nat} {m : Int} {L L' : List TItem} {K C K' C' : List Int} {ρ : RBRes} {A' : Option Addr} {c' : Nat} {B' : Option Addr} {d' : Nat} {D' : Option Addr} {f' : Nat}
    (h : SendSt w0 w base gr gb m L K C ρ) (hs : Same w w') (ho : OwnItem w' w.heap.size (.slice A' L'.length c') L') (hk : OwnI w' w.heap.size (.slice B' K'.length d') K') (hc : OwnI w' w.heap.size (.slice D' C'.length f') C')
    (s1 : Sep (.slice A' L'.length c') (.slice B' K'.length d')) (s2 : Sep (.slice A' L'.length c') (.slice D' C'.length f')) (s3 : Sep (.slice B' K'.length d') (.slice D' C'.length f')) :
    SendSt w0 ((((w'.setCell ⟨gr, 0, none⟩ (.int .i64 m)).setCell ⟨gr, 1, none⟩ (.slice A' L'.length c')).setCell ⟨gb, 0, none⟩ (.slice B' K'.length d')).setCell ⟨gb, 1, none⟩ (.slice D' C'.length f')) base gr gb m L' K' C' ⟨A', c', B', d', D', f'⟩ := by
  have lr := h.run.lt
  have lb := h.bank.lt
  have far : ∀ {v : Value} {e : TypeId} {s n : Nat} {xs : List Value}, w'.ownsRow w.heap.size e s v n xs → v.ownBlock ≠ some gr ∧ v.ownBlock ≠ some gb := fun ho => ⟨fun e => by have := (owns_new ho _ e).1; omega, fun e => by have := (owns_new ho _ e).1; omega⟩
  obtain ⟨a1, a2⟩ := far ho
  obtain ⟨b1, b2⟩ := far hk
  obtain ⟨c1, c2⟩ := far hc
  have hb := h.bs
  have sz := hs.size
  refine ⟨((((h.run.same hs).set 0 _).set 1 _).other _ h.ne).other _ h.ne, ((((h.bank.same hs).other _ (Ne.symm h.ne)).other _ (Ne.symm h.ne)).set 0 _).set 1 _,
    ⟨owns_set (owns_set (owns_set (owns_set (ho.rebase hb) a1) a1) a2) a2, owns_set (owns_set (owns_set (owns_set (hk.base hb) b1) b1) b2) b2, owns_set (owns_set (owns_set (owns_set (hc.base hb) c1) c1) c2) c2, s1, s2, s3⟩,
    ⟨a1, b1, c1⟩, ⟨a2, b2, c2⟩, h.ne, ((((h.same.trans hs).setCell h.l1 _).setCell h.l1 _).setCell h.l2 _).setCell h.l2 _, h.l1, h.l2, h.lb, by simp; omega⟩

/-! What has come up of 'a run and a bank are copied into boxes of their own'. -/
structure CPInv (wi : World) (XR XB : Value) (m : Int) (L : List TItem) (K C : List Int) (lr cr lb cb ar ab sr sb : Bool) (vlr vcr vlb vcb var vab : Value) (w1 : World) : Prop where
  same : Same wi w1
  hlr : lr = true → vlr = XR
  hlb : lb = true → vlb = XB
  hcr : cr = true → ∃ A c, vcr = .agg #[.int .i64 m, .slice A L.length c] ∧ OwnItem w1 wi.heap.size (.slice A L.length c) L ∧ (∀ g, ar = true → var = .pointer (some ⟨g, 0, none⟩) → (Value.slice A L.length c).ownBlock ≠ some g) ∧ (∀ g, ab = true → vab = .pointer (some ⟨g, 0, none⟩) → (Value.slice A L.length c).ownBlock ≠ some g) ∧
    (sr = true → ∃ g, var = .pointer (some ⟨g, 0, none⟩) ∧ BoxAt w1 g 26 [.int .i64 m, .slice A L.length c])
  hcb : cb = true → ∃ B d D f, vcb = .agg #[.slice B K.length d, .slice D C.length f] ∧ OwnI w1 wi.heap.size (.slice B K.length d) K ∧ OwnI w1 wi.heap.size (.slice D C.length f) C ∧ Sep (.slice B K.length d) (.slice D C.length f) ∧
    (∀ g, ar = true → var = .pointer (some ⟨g, 0, none⟩) → (Value.slice B K.length d).ownBlock ≠ some g ∧ (Value.slice D C.length f).ownBlock ≠ some g) ∧ (∀ g, ab = true → vab = .pointer (some ⟨g, 0, none⟩) → (Value.slice B K.length d).ownBlock ≠ some g ∧ (Value.slice D C.length f).ownBlock ≠ some g) ∧
    (sb = true → ∃ g, vab = .pointer (some ⟨g, 0, none⟩) ∧ BoxAt w1 g 29 [.slice B K.length d, .slice D C.length f])
  hsep : cr = true → cb = true → ∀ A c B d D f, vcr = .agg #[.int .i64 m, .slice A L.length c] → vcb = .agg #[.slice B K.length d, .slice D C.length f] → Sep (.slice A L.length c) (.slice B K.length d) ∧ Sep (.slice A L.length c) (.slice D C.length f)
  har : ar = true → ∃ g, var = .pointer (some ⟨g, 0, none⟩) ∧ wi.heap.size ≤ g ∧ g < w1.heap.size ∧ (sr = false → BoxAt w1 g 26 [.int .i64 0, .slice none 0 0])
  hab : ab = true → ∃ g, vab = .pointer (some ⟨g, 0, none⟩) ∧ wi.heap.size ≤ g ∧ g < w1.heap.size ∧ (sb = false → BoxAt w1 g 29 [.slice none 0 0, .slice none 0 0])
  hne : ar = true → ab = true → var ≠ vab
  dr : sr = true → ar = true ∧ cr = true
  db : sb = true → ab = true ∧ cb = true
section
variable {wi : World} {XR XB : Value} {m : Int} {L : List TItem} {K C : List Int} {lr cr lb cb ar ab sr sb : Bool} {vlr vcr vlb vcb var vab : Value} {w1 w2 : World}
theorem CPInv.start (hs : Same wi w1) : CPInv wi XR XB m L K C false false false false false false false false vlr vcr vlb vcb var vab w1 := by
  constructor <;> first | exact hs | (intro h; cases h; done)
theorem CPInv.world (i : CPInv wi XR XB m L K C lr cr lb cb ar ab sr sb vlr vcr vlb vcb var vab w1) (hs : Same w1 w2) : CPInv wi XR XB m L K C lr cr lb cb ar ab sr sb vlr vcr vlb vcb var vab w2 := by
  refine { i with same := i.same.trans hs, hcr := ?_, hcb := ?_, har := ?_, hab := ?_ }
  · intro a; obtain ⟨A, c, h1, h2, h3, h4, h5⟩ := i.hcr a; exact ⟨A, c, h1, h2.same hs, h3, h4, fun a => (by obtain ⟨g, p, q⟩ := h5 a; exact ⟨g, p, q.same hs⟩)⟩
  · intro a; obtain ⟨B, d, D, f, h1, h2, h3, h4, h5, h6, h7⟩ := i.hcb a; exact ⟨B, d, D, f, h1, h2.same hs, h3.same hs, h4, h5, h6, fun a => (by obtain ⟨g, p, q⟩ := h7 a; exact ⟨g, p, q.same hs⟩)⟩
  · intro a; obtain ⟨g, h1, h2, h3, h4⟩ := i.har a; exact ⟨g, h1, h2, Nat.lt_of_lt_of_le h3 hs.size, fun a => (h4 a).same hs⟩
  · intro a; obtain ⟨g, h1, h2, h3, h4⟩ := i.hab a; exact ⟨g, h1, h2, Nat.lt_of_lt_of_le h3 hs.size, fun a => (h4 a).same hs⟩
theorem CPInv.s_lr (i : CPInv wi XR XB m L K C lr cr lb cb ar ab sr sb vlr vcr vlb vcb var vab w1) : CPInv wi XR XB m L K C true cr lb cb ar ab sr sb XR vcr vlb vcb var vab w1 := { i with hlr := fun _ => rfl }
theorem CPInv.s_lb (i : CPInv wi XR XB m L K C lr cr lb cb ar ab sr sb vlr vcr vlb vcb var vab w1) : CPInv wi XR XB m L K C lr cr true cb ar ab sr sb vlr vcr XB vcb var vab w1 := { i with hlb := fun _ => rfl }
theorem CPInv.s_cr (i : CPInv wi XR XB m L K C lr cr lb cb ar ab sr sb vlr vcr vlb vcb var vab w1) (h0 : cr = false) {A : Option Addr} {c : Nat} (ho : OwnItem w2 w1.heap.size (.slice A L.length c) L) (hs : Same w1 w2) : CPInv wi XR XB m L K C lr true lb cb ar ab sr sb vlr (.agg #[.int .i64 m, .slice A L.length c]) vlb vcb var vab w2 := by
  have hr : sr = false := by cases h : sr; rfl; rw [(i.dr h).2] at h0; cases h0
  have far : ∀ g, g < w1.heap.size → (Value.slice A L.length c).ownBlock ≠ some g := fun g hg e => by have := (owns_new ho g e).1; omega
  refine { i.world hs with hcr := fun _ => ⟨A, c, rfl, ho.rebase i.same.size, fun g ha hg => ?_, fun g ha hg => ?_, fun h => (by rw [hr] at h; cases h)⟩, hsep := fun _ hb A' c' B d D f e1 e2 => ?_, dr := fun h => ⟨(i.dr h).1, rfl⟩ }
  · obtain ⟨g', p1, _, p3, _⟩ := i.har ha; have := ptr_inj (p1.symm.trans hg); subst this; exact far _ p3
  · obtain ⟨g', p1, _, p3, _⟩ := i.hab ha; have := ptr_inj (p1.symm.trans hg); subst this; exact far _ p3
  · simp at e1
    obtain ⟨rfl, rfl⟩ := e1
    obtain ⟨B', d', D', f', k1, k2, k3, _⟩ := i.hcb hb
    rw [k1] at e2
    simp at e2
    obtain ⟨⟨rfl, rfl⟩, rfl, rfl⟩ := e2
    exact ⟨fun g h1 h2 => far g (owns_new k2 g h2).2 h1, fun g h1 h2 => far g (owns_new k3 g h2).2 h1⟩
theorem CPInv.s_cb (i : CPInv wi XR XB m L K C lr cr lb cb ar ab sr sb vlr vcr vlb vcb var vab w1) (h0 : cb = false) {B D : Option Addr} {d f : Nat} (ho : OwnI w2 w1.heap.size (.slice B K.length d) K) (hp : OwnI w2 w1.heap.size (.slice D C.length f) C) (sp : Sep (.slice B K.length d) (.slice D C.length f)) (hs : Same w1 w2) : CPInv wi XR XB m L K C lr cr lb true ar ab sr sb vlr vcr vlb (.agg #[.slice B K.length d, .slice D C.length f]) var vab w2 := by
  have hr : sb = false := by cases h : sb; rfl; rw [(i.db h).2] at h0; cases h0
  have far : ∀ g, g < w1.heap.size → (Value.slice B K.length d).ownBlock ≠ some g ∧ (Value.slice D C.length f).ownBlock ≠ some g := fun g hg => ⟨fun e => by have := (owns_new ho g e).1; omega, fun e => by have := (owns_new hp g e).1; omega⟩
  refine { i.world hs with hcb := fun _ => ⟨B, d, D, f, rfl, ho.base i.same.size, hp.base i.same.size, sp, fun g ha hg => ?_, fun g ha hg => ?_, fun h => (by rw [hr] at h; cases h)⟩, hsep := fun hr _ A c B' d' D' f' e1 e2 => ?_, db := fun h => ⟨(i.db h).1, rfl⟩ }
  · obtain ⟨g', p1, _, p3, _⟩ := i.har ha; have := ptr_inj (p1.symm.trans hg); subst this; exact far _ p3
  · obtain ⟨g', p1, _, p3, _⟩ := i.hab ha; have := ptr_inj (p1.symm.trans hg); subst this; exact far _ p3
  · simp at e2
    obtain ⟨⟨rfl, rfl⟩, rfl, rfl⟩ := e2
    obtain ⟨A', c', k1, k2, _⟩ := i.hcr hr
    rw [k1] at e1
    simp at e1
    obtain ⟨rfl, rfl⟩ := e1
    exact ⟨fun g h1 h2 => (far g (owns_new k2 g h1).2).1 h2, fun g h1 h2 => (far g (owns_new k2 g h1).2).2 h2⟩
theorem CPInv.s_ar (i : CPInv wi XR XB m L K C lr cr lb cb ar ab sr sb vlr vcr vlb vcb var vab w1) (h0 : ar = false) : CPInv wi XR XB m L K C lr cr lb cb true ab sr sb vlr vcr vlb vcb (.pointer (some ⟨w1.heap.size, 0, none⟩)) vab (w1.alloc (.cells #[.int .i64 0, .slice none 0 0] 26)) := by
  have hr : sr = false := by cases h : sr; rfl; rw [(i.dr h).1] at h0; cases h0
  have hs := (Same.refl w1).alloc (.cells #[.int .i64 0, .slice none 0 0] 26)
  refine { i.world hs with hcr := fun a => ?_, hcb := fun a => ?_, har := fun _ => ⟨_, rfl, i.same.size, by simp, fun _ => BoxAt.new w1 _ [_, _]⟩, hne := fun _ hb e => ?_, dr := fun h => ⟨rfl, (i.dr h).2⟩ }
  · obtain ⟨A, c, k1, k2, k3, k4, k5⟩ := i.hcr a
    exact ⟨A, c, k1, k2.same hs, fun g _ hg => by rw [← ptr_inj hg]; exact fun e => Nat.lt_irrefl _ (owns_new k2 _ e).2, k4, fun h => (by rw [hr] at h; cases h)⟩
  · obtain ⟨B, d, D, f, k1, k2, k3, k4, k5, k6, k7⟩ := i.hcb a
    exact ⟨B, d, D, f, k1, k2.same hs, k3.same hs, k4, fun g _ hg => by rw [← ptr_inj hg]; exact ⟨fun e => Nat.lt_irrefl _ (owns_new k2 _ e).2, fun e => Nat.lt_irrefl _ (owns_new k3 _ e).2⟩, k6, fun h => (by obtain ⟨g, p, q⟩ := k7 h; exact ⟨g, p, q.same hs⟩)⟩
  · obtain ⟨g', p1, _, p3, _⟩ := i.hab hb
    have := ptr_inj (e.trans p1)
    omega
theorem CPInv.s_ab (i : CPInv wi XR XB m L K C lr cr lb cb ar ab sr sb vlr vcr vlb vcb var vab w1) (h0 : ab = false) : CPInv wi XR XB m L K C lr cr lb cb ar true sr sb vlr vcr vlb vcb var (.pointer (some ⟨w1.heap.size, 0, none⟩)) (w1.alloc (.cells #[.slice none 0 0, .slice none 0 0] 29)) := by
  have hr : sb = false := by cases h : sb; rfl; rw [(i.db h).1] at h0; cases h0
  have hs := (Same.refl w1).alloc (.cells #[.slice none 0 0, .slice none 0 0] 29)
  refine { i.world hs with hcr := fun a => ?_, hcb := fun a => ?_, hab := fun _ => ⟨_, rfl, i.same.size, by simp, fun _ => BoxAt.new w1 _ [_, _]⟩, hne := fun ha _ e => ?_, db := fun h => ⟨rfl, (i.db h).2⟩ }
  · obtain ⟨A, c, k1, k2, k3, k4, k5⟩ := i.hcr a
    exact ⟨A, c, k1, k2.same hs, k3, fun g _ hg => by rw [← ptr_inj hg]; exact fun e => Nat.lt_irrefl _ (owns_new k2 _ e).2, fun h => (by obtain ⟨g, p, q⟩ := k5 h; exact ⟨g, p, q.same hs⟩)⟩
  · obtain ⟨B, d, D, f, k1, k2, k3, k4, k5, k6, k7⟩ := i.hcb a
    exact ⟨B, d, D, f, k1, k2.same hs, k3.same hs, k4, k5, fun g _ hg => by rw [← ptr_inj hg]; exact ⟨fun e => Nat.lt_irrefl _ (owns_new k2 _ e).2, fun e => Nat.lt_irrefl _ (owns_new k3 _ e).2⟩, fun h => (by rw [hr] at h; cases h)⟩
  · obtain ⟨g', p1, _, p3, _⟩ := i.har ha
    have := ptr_inj (p1.symm.trans e)
    omega
theorem CPInv.s_sr (i : CPInv wi XR XB m L K C lr cr lb cb ar ab sr sb vlr vcr vlb vcb var vab w1) (hc : cr = true) (ha : ar = true) {g : Nat} (hg : var = .pointer (some ⟨g, 0, none⟩)) (h0 : sr = false) {A : Option Addr} {c : Nat} (hv : vcr = .agg #[.int .i64 m, .slice A L.length c]) : CPInv wi XR XB m L K C lr cr lb cb ar ab true sb vlr vcr vlb vcb var vab ((w1.setCell ⟨g, 0, none⟩ (.int .i64 m)).setCell ⟨g, 1, none⟩ (.slice A L.length c)) := by
  obtain ⟨g', p1, p2, p3, p4⟩ := i.har ha
  have := ptr_inj (p1.symm.trans hg); subst this
  obtain ⟨A', c', k1, k2, k3, k4, k5⟩ := i.hcr hc
  have e := k1.symm.trans hv
  simp at e
  obtain ⟨rfl, rfl⟩ := e
  have fr := k3 _ ha p1
  refine { i with same := (i.same.setCell p2 _).setCell p2 _, hcr := fun _ => ⟨A', c', k1, owns_set (owns_set k2 fr) fr, k3, k4, fun _ => ⟨g', p1, ((p4 h0).set 0 _).set 1 _⟩⟩, hcb := fun a => ?_, har := fun _ => ⟨g', p1, p2, by simpa using p3, fun a => (by cases a)⟩, hab := fun hb => ?_, dr := fun _ => ⟨ha, hc⟩ }
  · obtain ⟨B, d, D, f, q1, q2, q3, q4, q5, q6, q7⟩ := i.hcb a
    obtain ⟨f1, f2⟩ := q5 _ ha p1
    refine ⟨B, d, D, f, q1, owns_set (owns_set q2 f1) f1, owns_set (owns_set q3 f2) f2, q4, q5, q6, fun hb => ?_⟩
    obtain ⟨gb, y1, y2⟩ := q7 hb
    have hn : gb ≠ g' := fun e => i.hne ha (i.db hb).1 (by rw [p1, y1, e])
    exact ⟨gb, y1, (y2.other _ hn).other _ hn⟩
  · obtain ⟨gb, q1, q2, q3, q4⟩ := i.hab hb
    have hn : gb ≠ g' := fun e => i.hne ha hb (by rw [p1, q1, e])
    exact ⟨gb, q1, q2, by simpa using q3, fun a => ((q4 a).other _ hn).other _ hn⟩
theorem CPInv.s_sb (i : CPInv wi XR XB m L K C lr cr lb cb ar ab sr sb vlr vcr vlb vcb var vab w1) (hc : cb = true) (ha : ab = true) {g : Nat} (hg : vab = .pointer (some ⟨g, 0, none⟩)) (h0 : sb = false) {B : Option Addr} {d : Nat} {D : Option Addr} {f : Nat} (hv : vcb = .agg #[.slice B K.length d, .slice D C.length f]) : CPInv wi XR XB m L K C lr cr lb cb ar ab sr true vlr vcr vlb vcb var vab ((w1.setCell ⟨g, 0, none⟩ (.slice B K.length d)).setCell ⟨g, 1, none⟩ (.slice D C.length f)) := by
  obtain ⟨g', p1, p2, p3, p4⟩ := i.hab ha
  have := ptr_inj (p1.symm.trans hg); subst this
  obtain ⟨B', d', D', f', k1, k2, k3, k4, k5, k6, k7⟩ := i.hcb hc
  have e := k1.symm.trans hv
  simp at e
  obtain ⟨⟨rfl, rfl⟩, rfl, rfl⟩ := e
  obtain ⟨f1, f2⟩ := k6 _ ha p1
  refine { i with same := (i.same.setCell p2 _).setCell p2 _, hcb := fun _ => ⟨B', d', D', f', k1, owns_set (owns_set k2 f1) f1, owns_set (owns_set k3 f2) f2, k4, k5, k6, fun _ => ⟨g', p1, ((p4 h0).set 0 _).set 1 _⟩⟩, hcr := fun a => ?_, hab := fun _ => ⟨g', p1, p2, by simpa using p3, fun a => (by cases a)⟩, har := fun hb => ?_, db := fun _ => ⟨ha, hc⟩ }
  · obtain ⟨A, c, q1, q2, q3, q4, q5⟩ := i.hcr a
    have fb := q4 _ ha p1
    refine ⟨A, c, q1, owns_set (owns_set q2 fb) fb, q3, q4, fun hb => ?_⟩
    obtain ⟨gr, y1, y2⟩ := q5 hb
    have hn : gr ≠ g' := fun e => i.hne (i.dr hb).1 ha (by rw [p1, y1, e])
    exact ⟨gr, y1, (y2.other _ hn).other _ hn⟩
  · obtain ⟨gr, q1, q2, q3, q4⟩ := i.har hb
    have hn : gr ≠ g' := fun e => i.hne hb ha (by rw [p1, q1, e])
    exact ⟨gr, q1, q2, by simpa using q3, fun a => ((q4 a).other _ hn).other _ hn⟩
theorem CPInv.fin (i : CPInv wi XR XB m L K C lr cr lb cb ar ab sr sb vlr vcr vlb vcb var vab w1) (h1 : cr = true) (h2 : cb = true) (h3 : ar = true) (h4 : ab = true) (h5 : sr = true) (h6 : sb = true) :
    ∃ (gr gb : Nat) (ρ : RBRes), var = .pointer (some ⟨gr, 0, none⟩) ∧ vab = .pointer (some ⟨gb, 0, none⟩) ∧ SendSt wi w1 wi.heap.size gr gb m L K C ρ := by
  obtain ⟨A, c, k1, k2, k3, k4, k5⟩ := i.hcr h1
  obtain ⟨B, d, D, f, q1, q2, q3, q4, q5, q6, q7⟩ := i.hcb h2
  obtain ⟨gr, a1, a2⟩ := k5 h5
  obtain ⟨gb, b1, b2⟩ := q7 h6
  obtain ⟨z1, z2⟩ := i.hsep h1 h2 _ _ _ _ _ _ k1 q1
  obtain ⟨g1, y1, y2, _⟩ := i.har h3
  have := ptr_inj (y1.symm.trans a1); subst this
  obtain ⟨g2, x1, x2, _⟩ := i.hab h4
  have := ptr_inj (x1.symm.trans b1); subst this
  exact ⟨g1, g2, ⟨A, c, B, d, D, f⟩, a1, b1, ⟨a2, b2, ⟨k2, q2, q3, z1, z2, q4⟩, ⟨k3 _ h3 a1, q5 _ h3 a1⟩, ⟨k4 _ h4 b1, q6 _ h4 b1⟩, fun e => i.hne h3 h4 (by rw [a1, b1, e]), i.same, y2, x2, Nat.le_refl _, i.same.size⟩⟩
end
end Go.Proofs.Ytccgbilgfnoheaa
