/-
  Marks in a case of the call's own: they stay in its zone, and what they hand back is not negative.
-/
import Derived.Test.YtjfmknhnplefnaaGreatZKin
import Derived.Test.YtjfmknhnplefnaaGreatZCaseMem
namespace Go.Proofs.YtjfmknhnplefnaaGreat
open Go.RowKit
set_option linter.unusedVariables false

def SpellK (w : World) (A : Option Addr) (n lo hi : Nat) : Prop := ∀ k, k < n → ∃ g, A = some ⟨g, 0, none⟩ ∧ lo ≤ g ∧ g < hi ∧ (∀ j, j < 3 → IntC w ⟨g, k * 4 + j, none⟩) ∧ BoolC w ⟨g, k * 4 + 3, none⟩
theorem SpellK.kin {a b : World} {n lo hi : Nat} {A : Option Addr} (h : SpellK a A n lo hi) (hk : Kin a b) : SpellK b A n lo hi := fun k hk' => by
  obtain ⟨g, h1, h2, h3, h4, h5⟩ := h k hk'
  exact ⟨g, h1, h2, h3, fun j hj => hk.int _ (h4 j hj), hk.boo _ h5⟩
def RulesK (w : World) (A : Option Addr) (n lo hi : Nat) : Prop := ∀ k, k < n → ∃ g B m d, A = some ⟨g, 0, none⟩ ∧ lo ≤ g ∧ g < hi ∧ (∀ j, j < 6 → IntC w ⟨g, k * 7 + j, none⟩) ∧ w.cell? ⟨g, k * 7 + 6, none⟩ = some (.slice B m d) ∧ m ≤ 1048576 ∧ FlatK w 6 B m lo hi
theorem RulesK.kin {a b : World} {n lo hi : Nat} {A : Option Addr} (h : RulesK a A n lo hi) (hk : Kin a b) : RulesK b A n lo hi := fun k hk' => by
  obtain ⟨g, B, m, d, h1, h2, h3, h4, h5, h6, h7⟩ := h k hk'
  exact ⟨g, B, m, d, h1, h2, h3, fun j hj => hk.int _ (h4 j hj), hk.sl _ _ _ _ h5, h6, h7.kin hk⟩
structure CaseK (w : World) (lo hi : Nat) (D : TCase) (m : CMem) : Prop where
  rules : RulesK w m.r D.R.length lo hi
  facts : FlatK w 5 m.f D.F.length lo hi
  points : FlatK w 3 m.p D.P.length lo hi
  spells : SpellK w m.s D.S.length lo hi
  events : FlatK w 2 m.e D.E.length lo hi
theorem CaseK.kin {a b : World} {lo hi : Nat} {D : TCase} {m : CMem} (h : CaseK a lo hi D m) (hk : Kin a b) : CaseK b lo hi D m := ⟨h.rules.kin hk, h.facts.kin hk, h.points.kin hk, h.spells.kin hk, h.events.kin hk⟩
theorem CaseOwn.kinds {w : World} {base : Nat} {D : TCase} {m : CMem} (h : CaseOwn w base D m) (hD : D.Small 1048576) : CaseK w base w.heap.size D m := by
  refine ⟨fun k hk => ?_, FlatK.of cFact_len (fun x j hj => ?_) h.facts, FlatK.of cPoint_len (fun x j hj => ?_) h.points, fun k hk => ?_, FlatK.of cEvent_len (fun x j hj => ?_) h.events⟩
  · obtain ⟨L, hL, ho, hn⟩ := h.rules
    have hlen : L.length = D.R.length := by rw [← hL, List.length_map]
    obtain ⟨x, hx⟩ : ∃ x, L[k]? = some x := ⟨_, List.getElem?_eq_getElem (by omega)⟩
    obtain ⟨g, h1, h2, h3, h4, h5⟩ := OwnR.at_ cRule_len ho hx
    have hm := List.mem_of_getElem? hx
    refine ⟨g, x.2.1, x.1.nodes.length, x.2.2, h1, h2, h3, fun j hj => ?_, h4 6 _ rfl, hD.N x.1 (by rw [← hL]; exact List.mem_map_of_mem hm), FlatK.of cNode_len (fun x j hj => ?_) (hn x hm)⟩
    · match j, hj with
      | 0, _ => exact ⟨⟨_, h4 0 _ rfl⟩, h5 _⟩
      | 1, _ => exact ⟨⟨_, h4 1 _ rfl⟩, h5 _⟩
      | 2, _ => exact ⟨⟨_, h4 2 _ rfl⟩, h5 _⟩
      | 3, _ => exact ⟨⟨_, h4 3 _ rfl⟩, h5 _⟩
      | 4, _ => exact ⟨⟨_, h4 4 _ rfl⟩, h5 _⟩
      | 5, _ => exact ⟨⟨_, h4 5 _ rfl⟩, h5 _⟩
    · match j, hj with
      | 0, _ => exact ⟨_, rfl⟩
      | 1, _ => exact ⟨_, rfl⟩
      | 2, _ => exact ⟨_, rfl⟩
      | 3, _ => exact ⟨_, rfl⟩
      | 4, _ => exact ⟨_, rfl⟩
      | 5, _ => exact ⟨_, rfl⟩
  · match j, hj with
    | 0, _ => exact ⟨_, rfl⟩
    | 1, _ => exact ⟨_, rfl⟩
    | 2, _ => exact ⟨_, rfl⟩
    | 3, _ => exact ⟨_, rfl⟩
    | 4, _ => exact ⟨_, rfl⟩
  · match j, hj with
    | 0, _ => exact ⟨_, rfl⟩
    | 1, _ => exact ⟨_, rfl⟩
    | 2, _ => exact ⟨_, rfl⟩
  · obtain ⟨g, h1, h2, h3, h4, h5⟩ := OwnR.at_ cSpell_len h.spells (List.getElem?_eq_getElem hk)
    refine ⟨g, h1, h2, h3, fun j hj => ?_, ⟨⟨_, h4 3 _ rfl⟩, h5 _⟩⟩
    match j, hj with
    | 0, _ => exact ⟨⟨_, h4 0 _ rfl⟩, h5 _⟩
    | 1, _ => exact ⟨⟨_, h4 1 _ rfl⟩, h5 _⟩
    | 2, _ => exact ⟨⟨_, h4 2 _ rfl⟩, h5 _⟩
  · match j, hj with
    | 0, _ => exact ⟨_, rfl⟩
    | 1, _ => exact ⟨_, rfl⟩

set_option maxRecDepth 10000 in
set_option maxHeartbeats 2000000 in
theorem markNodeS_kin (A : Option Addr) (n c : Nat) (k0 : Int) (w : World) (lo hi : Nat) (hn : n ≤ 1048576) (h0 : 0 ≤ k0) (h1 : k0 ≤ 1000000000000000) (hr : FlatK w 6 A n lo hi) :
    Calls Tryz.prog 187 #[.slice A n c, .int .i64 k0] w fun e w' => e = .returned (.int .i64 (k0 + 6 * (n : Int))) ∧ Upd lo hi w w' ∧ Kin w w' := by
  go_enter Tryz.func187, Tryz.ntmps187
  go_wp2
  go_loopw [1, 5] (fun q i wr => ∃ k : Nat, k ≤ n ∧ i = .int .i64 k ∧ q = .int .i64 (k0 + 6 * (k : Int)) ∧ Upd lo hi w wr ∧ Kin w wr) (fun _ i _ => n - (intOf i).toNat)
  case atStart => exact ⟨0, Nat.zero_le _, rfl, by simp, (Same.refl w).upd _ _, Kin.refl _⟩
  case round =>
    obtain ⟨k, hk, rfl, rfl, hu, hq⟩ := hrel
    by_cases hlt : k < n
    · obtain ⟨g, rfl, b1, b2, hi_⟩ := hr k hlt
      have i0 := hi_ 0 (by omega)
      obtain ⟨⟨x0, c0⟩, f0⟩ := hq.int _ i0
      have i1 := hi_ 1 (by omega)
      obtain ⟨⟨x1, c1⟩, f1⟩ := hq.int _ i1
      have i2 := hi_ 2 (by omega)
      obtain ⟨⟨x2, c2⟩, f2⟩ := hq.int _ i2
      have i3 := hi_ 3 (by omega)
      obtain ⟨⟨x3, c3⟩, f3⟩ := hq.int _ i3
      have i4 := hi_ 4 (by omega)
      obtain ⟨⟨x4, c4⟩, f4⟩ := hq.int _ i4
      have i5 := hi_ 5 (by omega)
      obtain ⟨⟨x5, c5⟩, f5⟩ := hq.int _ i5
      simp only [Nat.add_zero] at c0 f0
      clear hr hi_
      go_wp2
      go_roundw
      case rel => exact ⟨k + 1, hlt, by go_num, by go_num, ((((((hu.put b1 b2).put b1 b2).put b1 b2).put b1 b2).put b1 b2).put b1 b2), ((((((hq.putI i0).putI i1).putI i2).putI i3).putI i4).putI i5)⟩
      case measure => simp [intOf]; omega
    · go_wp2
      go_ret
      exact ⟨ret_int (by omega), hu, hq⟩

set_option maxRecDepth 10000 in
set_option maxHeartbeats 2000000 in
theorem markFactS_kin (A : Option Addr) (n c : Nat) (k0 : Int) (w : World) (lo hi : Nat) (hn : n ≤ 1048576) (h0 : 0 ≤ k0) (h1 : k0 ≤ 1000000000000000) (hr : FlatK w 5 A n lo hi) :
    Calls Tryz.prog 152 #[.slice A n c, .int .i64 k0] w fun e w' => e = .returned (.int .i64 (k0 + 5 * (n : Int))) ∧ Upd lo hi w w' ∧ Kin w w' := by
  go_enter Tryz.func152, Tryz.ntmps152
  go_wp2
  go_loopw [1, 5] (fun q i wr => ∃ k : Nat, k ≤ n ∧ i = .int .i64 k ∧ q = .int .i64 (k0 + 5 * (k : Int)) ∧ Upd lo hi w wr ∧ Kin w wr) (fun _ i _ => n - (intOf i).toNat)
  case atStart => exact ⟨0, Nat.zero_le _, rfl, by simp, (Same.refl w).upd _ _, Kin.refl _⟩
  case round =>
    obtain ⟨k, hk, rfl, rfl, hu, hq⟩ := hrel
    by_cases hlt : k < n
    · obtain ⟨g, rfl, b1, b2, hi_⟩ := hr k hlt
      have i0 := hi_ 0 (by omega)
      obtain ⟨⟨x0, c0⟩, f0⟩ := hq.int _ i0
      have i1 := hi_ 1 (by omega)
      obtain ⟨⟨x1, c1⟩, f1⟩ := hq.int _ i1
      have i2 := hi_ 2 (by omega)
      obtain ⟨⟨x2, c2⟩, f2⟩ := hq.int _ i2
      have i3 := hi_ 3 (by omega)
      obtain ⟨⟨x3, c3⟩, f3⟩ := hq.int _ i3
      have i4 := hi_ 4 (by omega)
      obtain ⟨⟨x4, c4⟩, f4⟩ := hq.int _ i4
      simp only [Nat.add_zero] at c0 f0
      clear hr hi_
      go_wp2
      go_roundw
      case rel => exact ⟨k + 1, hlt, by go_num, by go_num, (((((hu.put b1 b2).put b1 b2).put b1 b2).put b1 b2).put b1 b2), (((((hq.putI i0).putI i1).putI i2).putI i3).putI i4)⟩
      case measure => simp [intOf]; omega
    · go_wp2
      go_ret
      exact ⟨ret_int (by omega), hu, hq⟩

set_option maxRecDepth 10000 in
set_option maxHeartbeats 2000000 in
theorem markPointS_kin (A : Option Addr) (n c : Nat) (k0 : Int) (w : World) (lo hi : Nat) (hn : n ≤ 1048576) (h0 : 0 ≤ k0) (h1 : k0 ≤ 1000000000000000) (hr : FlatK w 3 A n lo hi) :
    Calls Tryz.prog 153 #[.slice A n c, .int .i64 k0] w fun e w' => e = .returned (.int .i64 (k0 + 3 * (n : Int))) ∧ Upd lo hi w w' ∧ Kin w w' := by
  go_enter Tryz.func153, Tryz.ntmps153
  go_wp2
  go_loopw [1, 5] (fun q i wr => ∃ k : Nat, k ≤ n ∧ i = .int .i64 k ∧ q = .int .i64 (k0 + 3 * (k : Int)) ∧ Upd lo hi w wr ∧ Kin w wr) (fun _ i _ => n - (intOf i).toNat)
  case atStart => exact ⟨0, Nat.zero_le _, rfl, by simp, (Same.refl w).upd _ _, Kin.refl _⟩
  case round =>
    obtain ⟨k, hk, rfl, rfl, hu, hq⟩ := hrel
    by_cases hlt : k < n
    · obtain ⟨g, rfl, b1, b2, hi_⟩ := hr k hlt
      have i0 := hi_ 0 (by omega)
      obtain ⟨⟨x0, c0⟩, f0⟩ := hq.int _ i0
      have i1 := hi_ 1 (by omega)
      obtain ⟨⟨x1, c1⟩, f1⟩ := hq.int _ i1
      have i2 := hi_ 2 (by omega)
      obtain ⟨⟨x2, c2⟩, f2⟩ := hq.int _ i2
      simp only [Nat.add_zero] at c0 f0
      clear hr hi_
      go_wp2
      go_roundw
      case rel => exact ⟨k + 1, hlt, by go_num, by go_num, (((hu.put b1 b2).put b1 b2).put b1 b2), (((hq.putI i0).putI i1).putI i2)⟩
      case measure => simp [intOf]; omega
    · go_wp2
      go_ret
      exact ⟨ret_int (by omega), hu, hq⟩

set_option maxRecDepth 10000 in
set_option maxHeartbeats 2000000 in
theorem markEventS_kin (A : Option Addr) (n c : Nat) (k0 : Int) (w : World) (lo hi : Nat) (hn : n ≤ 1048576) (h0 : 0 ≤ k0) (h1 : k0 ≤ 1000000000000000) (hr : FlatK w 2 A n lo hi) :
    Calls Tryz.prog 155 #[.slice A n c, .int .i64 k0] w fun e w' => e = .returned (.int .i64 (k0 + 2 * (n : Int))) ∧ Upd lo hi w w' ∧ Kin w w' := by
  go_enter Tryz.func155, Tryz.ntmps155
  go_wp2
  go_loopw [1, 5] (fun q i wr => ∃ k : Nat, k ≤ n ∧ i = .int .i64 k ∧ q = .int .i64 (k0 + 2 * (k : Int)) ∧ Upd lo hi w wr ∧ Kin w wr) (fun _ i _ => n - (intOf i).toNat)
  case atStart => exact ⟨0, Nat.zero_le _, rfl, by simp, (Same.refl w).upd _ _, Kin.refl _⟩
  case round =>
    obtain ⟨k, hk, rfl, rfl, hu, hq⟩ := hrel
    by_cases hlt : k < n
    · obtain ⟨g, rfl, b1, b2, hi_⟩ := hr k hlt
      have i0 := hi_ 0 (by omega)
      obtain ⟨⟨x0, c0⟩, f0⟩ := hq.int _ i0
      have i1 := hi_ 1 (by omega)
      obtain ⟨⟨x1, c1⟩, f1⟩ := hq.int _ i1
      simp only [Nat.add_zero] at c0 f0
      clear hr hi_
      go_wp2
      go_roundw
      case rel => exact ⟨k + 1, hlt, by go_num, by go_num, ((hu.put b1 b2).put b1 b2), ((hq.putI i0).putI i1)⟩
      case measure => simp [intOf]; omega
    · go_wp2
      go_ret
      exact ⟨ret_int (by omega), hu, hq⟩

set_option maxRecDepth 10000 in
set_option maxHeartbeats 2000000 in
theorem markSpellS_kin (A : Option Addr) (n c : Nat) (k0 : Int) (w : World) (lo hi : Nat) (hn : n ≤ 1048576) (h0 : 0 ≤ k0) (h1 : k0 ≤ 1000000000000000) (hr : SpellK w A n lo hi) :
    Calls Tryz.prog 154 #[.slice A n c, .int .i64 k0] w fun e w' => e = .returned (.int .i64 (k0 + 4 * (n : Int))) ∧ Upd lo hi w w' ∧ Kin w w' := by
  go_enter Tryz.func154, Tryz.ntmps154
  go_wp2
  go_loopw [1, 5] (fun q i wr => ∃ k : Nat, k ≤ n ∧ i = .int .i64 k ∧ q = .int .i64 (k0 + 4 * (k : Int)) ∧ Upd lo hi w wr ∧ Kin w wr) (fun _ i _ => n - (intOf i).toNat)
  case atStart => exact ⟨0, Nat.zero_le _, rfl, by simp, (Same.refl w).upd _ _, Kin.refl _⟩
  case round =>
    obtain ⟨k, hk, rfl, rfl, hu, hq⟩ := hrel
    by_cases hlt : k < n
    · obtain ⟨g, rfl, b1, b2, hi_, ib⟩ := hr k hlt
      have i0 := hi_ 0 (by omega)
      obtain ⟨⟨x0, c0⟩, f0⟩ := hq.int _ i0
      have i1 := hi_ 1 (by omega)
      obtain ⟨⟨x1, c1⟩, f1⟩ := hq.int _ i1
      have i2 := hi_ 2 (by omega)
      obtain ⟨⟨x2, c2⟩, f2⟩ := hq.int _ i2
      obtain ⟨⟨x3, c3⟩, f3⟩ := hq.boo _ ib
      simp only [Nat.add_zero] at c0 f0
      clear hr hi_
      go_wp2
      go_roundw
      case rel => exact ⟨k + 1, hlt, by go_num, by go_num, ((((hu.put b1 b2).put b1 b2).put b1 b2).put b1 b2), ((((hq.putI i0).putI i1).putI i2).putB ib)⟩
      case measure => simp [intOf]; omega
    · go_wp2
      go_ret
      exact ⟨ret_int (by omega), hu, hq⟩

set_option maxRecDepth 10000 in
set_option maxHeartbeats 4000000 in
theorem markRuleS_kin (A : Option Addr) (n c : Nat) (k0 : Int) (w : World) (lo hi : Nat) (hn : n ≤ 1048576) (h0 : 0 ≤ k0) (h1 : k0 ≤ 100000000000000) (hr : RulesK w A n lo hi) :
    Calls Tryz.prog 151 #[.slice A n c, .int .i64 k0] w fun e w' => ∃ r : Int, e = .returned (.int .i64 r) ∧ k0 ≤ r ∧ r ≤ k0 + 10000000 * (n : Int) ∧ Upd lo hi w w' ∧ Kin w w' := by
  go_enter Tryz.func151, Tryz.ntmps151
  go_wp2
  go_loopw [1, 5] (fun q i wr => ∃ (k : Nat) (r : Int), k ≤ n ∧ i = .int .i64 k ∧ q = .int .i64 r ∧ k0 ≤ r ∧ r ≤ k0 + 10000000 * (k : Int) ∧ Upd lo hi w wr ∧ Kin w wr) (fun _ i _ => n - (intOf i).toNat)
  case atStart => exact ⟨0, k0, Nat.zero_le _, rfl, rfl, Int.le_refl _, by simp, (Same.refl w).upd _ _, Kin.refl _⟩
  case round =>
    obtain ⟨k, r, hk, rfl, rfl, r0, r1, hu, hq⟩ := hrel
    by_cases hlt : k < n
    · obtain ⟨g, B, m, d, rfl, b1, b2, hi_, hc6, hm, hf⟩ := hr k hlt
      have i0 := hi_ 0 (by omega)
      obtain ⟨⟨x0, c0⟩, f0⟩ := hq.int _ i0
      have i1 := hi_ 1 (by omega)
      obtain ⟨⟨x1, c1⟩, f1⟩ := hq.int _ i1
      have i2 := hi_ 2 (by omega)
      obtain ⟨⟨x2, c2⟩, f2⟩ := hq.int _ i2
      have i3 := hi_ 3 (by omega)
      obtain ⟨⟨x3, c3⟩, f3⟩ := hq.int _ i3
      have i4 := hi_ 4 (by omega)
      obtain ⟨⟨x4, c4⟩, f4⟩ := hq.int _ i4
      have i5 := hi_ 5 (by omega)
      obtain ⟨⟨x5, c5⟩, f5⟩ := hq.int _ i5
      simp only [Nat.add_zero] at c0 f0
      clear hr hi_
      have c6 := hq.sl _ _ _ _ hc6
      have K6 : Kin w ((((((wr.setCell ⟨g, k * 7, none⟩ (.int .i64 (r))).setCell ⟨g, k * 7 + 1, none⟩ (.int .i64 (r + 1))).setCell ⟨g, k * 7 + 2, none⟩ (.int .i64 (r + 1 + 1))).setCell ⟨g, k * 7 + 3, none⟩ (.int .i64 (r + 1 + 1 + 1))).setCell ⟨g, k * 7 + 4, none⟩ (.int .i64 (r + 1 + 1 + 1 + 1))).setCell ⟨g, k * 7 + 5, none⟩ (.int .i64 (r + 1 + 1 + 1 + 1 + 1))) := ((((((hq.putI (y := r) i0).putI (y := r + 1) i1).putI (y := r + 1 + 1) i2).putI (y := r + 1 + 1 + 1) i3).putI (y := r + 1 + 1 + 1 + 1) i4).putI (y := r + 1 + 1 + 1 + 1 + 1) i5)
      have U6 : Upd lo hi w ((((((wr.setCell ⟨g, k * 7, none⟩ (.int .i64 (r))).setCell ⟨g, k * 7 + 1, none⟩ (.int .i64 (r + 1))).setCell ⟨g, k * 7 + 2, none⟩ (.int .i64 (r + 1 + 1))).setCell ⟨g, k * 7 + 3, none⟩ (.int .i64 (r + 1 + 1 + 1))).setCell ⟨g, k * 7 + 4, none⟩ (.int .i64 (r + 1 + 1 + 1 + 1))).setCell ⟨g, k * 7 + 5, none⟩ (.int .i64 (r + 1 + 1 + 1 + 1 + 1))) := ((((((hu.put b1 b2).put b1 b2).put b1 b2).put b1 b2).put b1 b2).put b1 b2)
      have z6 := K6.sl _ _ _ _ hc6
      go_wp2_with fail
      refine (markNodeS_kin B m d _ _ lo hi hm (by omega) (by omega) (hf.kin K6)).mono ?_
      rintro e w7 ⟨rfl, u7, q7⟩
      have U7 := U6.trans u7
      have K7 := K6.trans q7
      clear u7 q7 U6 K6 hf hc6 hu hq
      go_wp2
      go_roundw
      case rel => exact ⟨k + 1, _, hlt, by go_num, rfl, by omega, by omega, U7, K7⟩
      case measure => simp [intOf]; omega
    · go_wp2
      go_ret
      exact ⟨r, rfl, r0, by omega, hu, hq⟩

theorem markBook_kin (A : Option Addr) (n c : Nat) (k0 : Int) (w : World) (lo hi : Nat) (hn : n ≤ 1048576) (h0 : 0 ≤ k0) (h1 : k0 ≤ 100000000000000) (hr : RulesK w A n lo hi) :
    Calls Tryz.prog 93 #[.agg #[.slice A n c], .int .i64 k0] w fun e w' => ∃ r : Int, e = .returned (.int .i64 r) ∧ k0 ≤ r ∧ r ≤ k0 + 10000000 * (n : Int) ∧ Upd lo hi w w' ∧ Kin w w' := by
  go_enter Tryz.func93, Tryz.ntmps93
  go_wp2_with fail
  have hb : BoxAt (w.alloc (.cells #[.slice A n c] 26)) (w.heap.size) 26 [.slice A n c] := by simpa using (BoxAt.new w 26 [.slice A n c])
  have S0 := (Same.alloc (Same.refl w) (.cells #[.slice A n c] 26))
  generalize (w.alloc (.cells #[.slice A n c] 26)) = w0 at *
  refine (markRuleS_kin A n c k0 _ lo hi hn h0 (by omega) (hr.kin (Kin.same S0))).mono ?_
  rintro e w1 ⟨r, rfl, r0, r1, hu, hk⟩
  go_wp2
  go_ret
  exact ⟨_, rfl, by omega, by omega, (S0.upd lo hi).trans hu, (Kin.same S0).trans hk⟩

theorem markStore_kin (A : Option Addr) (n c : Nat) (k0 : Int) (w : World) (lo hi : Nat) (hn : n ≤ 1048576) (h0 : 0 ≤ k0) (h1 : k0 ≤ 100000000000000) (hr : FlatK w 5 A n lo hi) :
    Calls Tryz.prog 94 #[.agg #[.slice A n c], .int .i64 k0] w fun e w' => ∃ r : Int, e = .returned (.int .i64 r) ∧ k0 ≤ r ∧ r ≤ k0 + 10000000 * (n : Int) ∧ Upd lo hi w w' ∧ Kin w w' := by
  go_enter Tryz.func94, Tryz.ntmps94
  go_wp2_with fail
  have hb : BoxAt (w.alloc (.cells #[.slice A n c] 29)) (w.heap.size) 29 [.slice A n c] := by simpa using (BoxAt.new w 29 [.slice A n c])
  have S0 := (Same.alloc (Same.refl w) (.cells #[.slice A n c] 29))
  generalize (w.alloc (.cells #[.slice A n c] 29)) = w0 at *
  refine (markFactS_kin A n c k0 _ lo hi hn h0 (by omega) (hr.kin (Kin.same S0))).mono ?_
  rintro e w1 ⟨rfl, hu, hk⟩
  go_wp2
  go_ret
  exact ⟨_, rfl, by omega, by omega, (S0.upd lo hi).trans hu, (Kin.same S0).trans hk⟩

theorem markSeries_kin (A : Option Addr) (n c : Nat) (k0 : Int) (w : World) (lo hi : Nat) (hn : n ≤ 1048576) (h0 : 0 ≤ k0) (h1 : k0 ≤ 100000000000000) (hr : FlatK w 3 A n lo hi) :
    Calls Tryz.prog 95 #[.agg #[.slice A n c], .int .i64 k0] w fun e w' => ∃ r : Int, e = .returned (.int .i64 r) ∧ k0 ≤ r ∧ r ≤ k0 + 10000000 * (n : Int) ∧ Upd lo hi w w' ∧ Kin w w' := by
  go_enter Tryz.func95, Tryz.ntmps95
  go_wp2_with fail
  have hb : BoxAt (w.alloc (.cells #[.slice A n c] 32)) (w.heap.size) 32 [.slice A n c] := by simpa using (BoxAt.new w 32 [.slice A n c])
  have S0 := (Same.alloc (Same.refl w) (.cells #[.slice A n c] 32))
  generalize (w.alloc (.cells #[.slice A n c] 32)) = w0 at *
  refine (markPointS_kin A n c k0 _ lo hi hn h0 (by omega) (hr.kin (Kin.same S0))).mono ?_
  rintro e w1 ⟨rfl, hu, hk⟩
  go_wp2
  go_ret
  exact ⟨_, rfl, by omega, by omega, (S0.upd lo hi).trans hu, (Kin.same S0).trans hk⟩

theorem markMember_kin (x y : Int) (A : Option Addr) (n c : Nat) (B : Option Addr) (p d : Nat) (k0 : Int) (w : World) (lo hi : Nat) (hn : n ≤ 1048576) (hp : p ≤ 1048576) (h0 : 0 ≤ k0) (h1 : k0 ≤ 100000000000000) (hr : SpellK w A n lo hi) (hr' : FlatK w 2 B p lo hi) (hh : hi ≤ w.heap.size) :
    Calls Tryz.prog 96 #[.agg #[.int .i64 x, .int .i64 y, .slice A n c, .slice B p d], .int .i64 k0] w fun e w' => ∃ r : Int, e = .returned (.int .i64 r) ∧ k0 ≤ r ∧ Upd lo hi w w' := by
  go_enter Tryz.func96, Tryz.ntmps96
  go_wp2_with fail
  have hb : BoxAt (w.alloc (.cells #[.int .i64 x, .int .i64 y, .slice A n c, .slice B p d] 36)) (w.heap.size) 36 [.int .i64 x, .int .i64 y, .slice A n c, .slice B p d] := by simpa using (BoxAt.new w 36 [.int .i64 x, .int .i64 y, .slice A n c, .slice B p d])
  have S0 := (Same.alloc (Same.refl w) (.cells #[.int .i64 x, .int .i64 y, .slice A n c, .slice B p d] 36))
  generalize (w.alloc (.cells #[.int .i64 x, .int .i64 y, .slice A n c, .slice B p d] 36)) = w0 at *
  refine (markSpellS_kin A n c k0 _ lo hi hn h0 (by omega) (hr.kin (Kin.same S0))).mono ?_
  rintro e w1 ⟨rfl, hu, hk⟩
  replace hb := hb.upd hu (.inr hh)
  have c2 := hb.cell 2 rfl
  have c3 := hb.cell 3 rfl
  go_wp2_with fail
  refine (markEventS_kin B p d _ _ lo hi hp (by omega) (by omega) (hr'.kin ((Kin.same S0).trans hk))).mono ?_
  rintro e w2 ⟨rfl, hu2, hk2⟩
  go_wp2
  go_ret
  exact ⟨_, rfl, by omega, ((S0.upd lo hi).trans hu).trans hu2⟩

set_option maxRecDepth 10000 in
set_option maxHeartbeats 4000000 in
/-- All of a case. -/
theorem markCase_any (D : TCase) (m : CMem) (w : World) (lo hi : Nat) (hD : D.Small 1048576) (hr : CaseK w lo hi D m) (hh : hi ≤ w.heap.size) :
    Calls Tryz.prog 31 #[.agg #[.slice m.r D.R.length m.rc, .slice m.f D.F.length m.fc, .slice m.p D.P.length m.pc, .int .i64 D.birth, .int .i64 D.joined, .slice m.s D.S.length m.sc, .slice m.e D.E.length m.ec], .int .i64 1] w fun e w' => ∃ r : Int, e = .returned (.int .i64 r) ∧ 0 ≤ r ∧ Upd lo hi w w' := by
  have z1 := hD.R
  have z2 := hD.F
  have z3 := hD.P
  have z4 := hD.S
  have z5 := hD.E
  go_enter Tryz.func31, Tryz.ntmps31
  go_wp2_with fail
  have hb : BoxAt (w.alloc (.cells #[.slice m.r D.R.length m.rc, .slice m.f D.F.length m.fc, .slice m.p D.P.length m.pc, .int .i64 D.birth, .int .i64 D.joined, .slice m.s D.S.length m.sc, .slice m.e D.E.length m.ec] 38)) (w.heap.size) 38 [.slice m.r D.R.length m.rc, .slice m.f D.F.length m.fc, .slice m.p D.P.length m.pc, .int .i64 D.birth, .int .i64 D.joined, .slice m.s D.S.length m.sc, .slice m.e D.E.length m.ec] := by simpa using (BoxAt.new w 38 [.slice m.r D.R.length m.rc, .slice m.f D.F.length m.fc, .slice m.p D.P.length m.pc, .int .i64 D.birth, .int .i64 D.joined, .slice m.s D.S.length m.sc, .slice m.e D.E.length m.ec])
  have S0 := (Same.alloc (Same.refl w) (.cells #[.slice m.r D.R.length m.rc, .slice m.f D.F.length m.fc, .slice m.p D.P.length m.pc, .int .i64 D.birth, .int .i64 D.joined, .slice m.s D.S.length m.sc, .slice m.e D.E.length m.ec] 38))
  generalize (w.alloc (.cells #[.slice m.r D.R.length m.rc, .slice m.f D.F.length m.fc, .slice m.p D.P.length m.pc, .int .i64 D.birth, .int .i64 D.joined, .slice m.s D.S.length m.sc, .slice m.e D.E.length m.ec] 38)) = w0 at *
  refine (markBook_kin m.r D.R.length m.rc 1 _ lo hi z1 (by omega) (by omega) (hr.rules.kin (Kin.same S0))).mono ?_
  rintro e w1 ⟨r1, rfl, p1, q1, u1, k1⟩
  replace k1 := (Kin.same S0).trans k1
  replace hb := hb.upd u1 (.inr hh)
  have U1 := (S0.upd lo hi).trans u1
  have b0 := hb.cell 0 rfl
  have b1 := hb.cell 1 rfl
  have b2 := hb.cell 2 rfl
  have b3 := hb.cell 3 rfl
  have b4 := hb.cell 4 rfl
  have b5 := hb.cell 5 rfl
  have b6 := hb.cell 6 rfl
  go_wp2_with fail
  clear b0 b1 b2 b3 b4 b5 b6
  refine (markStore_kin m.f D.F.length m.fc r1 _ lo hi z2 (by omega) (by omega) (hr.facts.kin k1)).mono ?_
  rintro e w2 ⟨r2, rfl, p2, q2, u2, k2⟩
  replace k2 := k1.trans k2
  replace hb := hb.upd u2 (.inr hh)
  have U2 := U1.trans u2
  have b0 := hb.cell 0 rfl
  have b1 := hb.cell 1 rfl
  have b2 := hb.cell 2 rfl
  have b3 := hb.cell 3 rfl
  have b4 := hb.cell 4 rfl
  have b5 := hb.cell 5 rfl
  have b6 := hb.cell 6 rfl
  go_wp2_with fail
  clear b0 b1 b2 b3 b4 b5 b6
  refine (markSeries_kin m.p D.P.length m.pc r2 _ lo hi z3 (by omega) (by omega) (hr.points.kin k2)).mono ?_
  rintro e w3 ⟨r3, rfl, p3, q3, u3, k3⟩
  replace k3 := k2.trans k3
  replace hb := hb.upd u3 (.inr hh)
  have U3 := U2.trans u3
  have b0 := hb.cell 0 rfl
  have b1 := hb.cell 1 rfl
  have b2 := hb.cell 2 rfl
  have b3 := hb.cell 3 rfl
  have b4 := hb.cell 4 rfl
  have b5 := hb.cell 5 rfl
  have b6 := hb.cell 6 rfl
  go_wp2_with fail
  clear b0 b1 b2 b3 b4 b5 b6
  refine (markMember_kin D.birth D.joined m.s D.S.length m.sc m.e D.E.length m.ec r3 _ lo hi z4 z5 (by omega) (by omega) (hr.spells.kin k3) (hr.events.kin k3) (Nat.le_trans hh U3.size)).mono ?_
  rintro e w4 ⟨r4, rfl, p4, u4⟩
  go_wp2
  go_ret
  exact ⟨_, rfl, by omega, U3.trans u4⟩
end Go.Proofs.YtjfmknhnplefnaaGreat
