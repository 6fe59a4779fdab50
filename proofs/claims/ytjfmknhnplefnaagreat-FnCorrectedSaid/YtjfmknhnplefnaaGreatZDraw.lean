/-
  The cursor over the bytes of a draw.
-/
import Derived.Test.YtjfmknhnplefnaaGreatZIntS
import Derived.Test.YtjfmknhnplefnaaGreatZRec
namespace Go.Proofs.YtjfmknhnplefnaaGreat
open Go.RowKit

/-- A slice of n bytes below block B. -/
def BytesAt (w : World) (B : Nat) (A : Option Addr) (n : Nat) : Prop :=
  n = 0 ∨ ∃ b off, A = some ⟨b, off, none⟩ ∧ b < B ∧ ∀ k, k < n → ∃ x : Int, w.cell? ⟨b, off + k, none⟩ = some (.int .u8 x) ∧ 0 ≤ x ∧ x ≤ 255
theorem BytesAt.keep {w w' : World} {B : Nat} {A : Option Addr} {n : Nat} (h : BytesAt w B A n) (hc : ∀ p : Addr, p.block < B → w'.cell? p = w.cell? p) : BytesAt w' B A n := by
  rcases h with h | ⟨b, off, h1, h2, h3⟩
  · exact .inl h
  · exact .inr ⟨b, off, h1, h2, fun k hk => by rw [hc _ h2]; exact h3 k hk⟩
theorem BytesAt.keep' {w w' : World} {A : Option Addr} {n : Nat} (h : BytesAt w w.heap.size A n) (hs : Same w w') : BytesAt w' w'.heap.size A n := by
  rcases h with h | ⟨b, off, h1, h2, h3⟩
  · exact .inl h
  · exact .inr ⟨b, off, h1, by have := hs.size; omega, fun k hk => by rw [hs.cell h2]; exact h3 k hk⟩
theorem BytesAt.at_ {w : World} {B : Nat} {A : Option Addr} {n : Nat} (h : BytesAt w B A n) {k : Nat} (hk : k < n) :
    ∃ b off x, A = some ⟨b, off, none⟩ ∧ b < B ∧ w.cell? ⟨b, off + k, none⟩ = some (.int .u8 x) ∧ 0 ≤ x ∧ x ≤ 255 := by
  rcases h with h | ⟨b, off, h1, h2, h3⟩
  · omega
  · obtain ⟨x, hx⟩ := h3 k hk
    exact ⟨b, off, x, h1, h2, hx⟩

/-- What came in as a slice of bytes. -/
theorem bytes_opened {W : World} {x : Addr} {l c : Nat} {zs : List Int} (hl : l ≤ c) (hm : c ≤ maxLen) (hz : zs.length = c) (hcell : ∀ i, i < zs.length → W.cell? (x.add i) = some (.int .u8 (zs.getD i 0)))
    (hb : ∀ n ∈ zs, 0 ≤ n ∧ n ≤ 255) : BytesAt W W.heap.size (some x) l ∧ l ≤ 9223372036854775807 := by
  refine ⟨?_, by unfold maxLen at hm; omega⟩
  rcases Nat.eq_zero_or_pos l with h0 | h0
  · exact .inl h0
  · obtain ⟨b, off, spot⟩ := x
    have hc := hcell 0 (by omega)
    have hspot : spot = none := by simpa [Addr.add] using World.cell?_spot hc
    subst hspot
    refine .inr ⟨b, off, rfl, World.block_lt_of_cell? W _ hc, fun k hk => ?_⟩
    have h1 := hcell k (by omega)
    rw [Addr.add_lit] at h1
    have h2 : zs[k]? = some (zs[k]'(by omega)) := List.getElem?_eq_getElem (by omega)
    have h3 := hb _ (List.mem_of_getElem? h2)
    exact ⟨_, by rw [h1]; simp [List.getD, h2], h3⟩

def CurC (w : World) (g : Nat) (A : Option Addr) (n c : Nat) (i : Nat) (h : Int) : Prop :=
  w.heap[g]? = some (.cells #[.slice A n c, .int .i64 i, .int .i64 h] 145 (0, 0)) ∧ n ≤ 1048576 ∧ i ≤ n ∧ BytesAt w g A n
/-- A cursor in block g. -/
def Cur (w : World) (g : Nat) : Prop := ∃ A n c i h, CurC w g A n c i h
theorem CurC.lt {w : World} {g : Nat} {A : Option Addr} {n c i : Nat} {h : Int} (hc : CurC w g A n c i h) : g < w.heap.size := (Array.getElem?_eq_some_iff.1 hc.1).1
theorem Cur.lt {w : World} {g : Nat} (h : Cur w g) : g < w.heap.size := by
  obtain ⟨_, _, _, _, _, hc⟩ := h
  exact hc.lt
theorem CurC.upd {w w' : World} {g : Nat} {A : Option Addr} {n c i lo hi : Nat} {h : Int} (hc : CurC w g A n c i h) (hu : Upd lo hi w w') (hg : g < lo) : CurC w' g A n c i h :=
  ⟨by rw [hu.block g hc.lt (.inl hg)]; exact hc.1, hc.2.1, hc.2.2.1, hc.2.2.2.keep fun p hp => hu.cell (by have := hc.lt; omega) (.inl (by omega))⟩
theorem CurC.same {w w' : World} {g : Nat} {A : Option Addr} {n c i : Nat} {h : Int} (hc : CurC w g A n c i h) (hs : Same w w') : CurC w' g A n c i h :=
  ⟨by rw [hs.block g hc.lt]; exact hc.1, hc.2.1, hc.2.2.1, hc.2.2.2.keep fun p hp => hs.cell (by have := hc.lt; omega)⟩
theorem Cur.upd {w w' : World} {g lo hi : Nat} (h : Cur w g) (hu : Upd lo hi w w') (hg : g < lo) : Cur w' g := by
  obtain ⟨A, n, c, i, x, hc⟩ := h
  exact ⟨A, n, c, i, x, hc.upd hu hg⟩
theorem Cur.same {w w' : World} {g : Nat} (h : Cur w g) (hs : Same w w') : Cur w' g := by
  obtain ⟨A, n, c, i, x, hc⟩ := h
  exact ⟨A, n, c, i, x, hc.same hs⟩
theorem CurC.cell {w : World} {g : Nat} {A : Option Addr} {n c i : Nat} {h : Int} (hc : CurC w g A n c i h) :
    w.cell? ⟨g, 0, none⟩ = some (.slice A n c) ∧ w.cell? ⟨g, 1, none⟩ = some (.int .i64 i) ∧ w.cell? ⟨g, 2, none⟩ = some (.int .i64 h) ∧ ∀ j, w.frozen? ⟨g, j, none⟩ = false := by
  refine ⟨?_, ?_, ?_, fun j => frozen_of_row w g j _ _ hc.1⟩ <;> rw [cell_of_row w g _ _ _ (0, 0) hc.1] <;> rfl
theorem CurC.set2 {w : World} {g : Nat} {A : Option Addr} {n c i : Nat} {h : Int} (hc : CurC w g A n c i h) (y : Int) :
    CurC (w.setCell ⟨g, 2, none⟩ (.int .i64 y)) g A n c i y ∧ Upd g (g + 1) w (w.setCell ⟨g, 2, none⟩ (.int .i64 y)) := by
  have hh := heap_setCell_same w g 2 _ _ (.int .i64 y) hc.1
  refine ⟨⟨by simpa using hh, hc.2.1, hc.2.2.1, hc.2.2.2.keep fun p hp => World.cell?_of_block (heap_setCell_other w _ _ _ (by simp; omega))⟩, ⟨rfl, rfl, rfl, by simp, fun k _ ho => heap_setCell_other w _ _ _ (by simp; omega)⟩⟩
theorem CurC.set1 {w : World} {g : Nat} {A : Option Addr} {n c i : Nat} {h : Int} (hc : CurC w g A n c i h) (hi : i < n) :
    CurC (w.setCell ⟨g, 1, none⟩ (.int .i64 ((i : Int) + 1))) g A n c (i + 1) h ∧ Upd g (g + 1) w (w.setCell ⟨g, 1, none⟩ (.int .i64 ((i : Int) + 1))) := by
  have hh := heap_setCell_same w g 1 _ _ (.int .i64 ((i : Int) + 1)) hc.1
  refine ⟨⟨by simpa using hh, hc.2.1, hi, hc.2.2.2.keep fun p hp => World.cell?_of_block (heap_setCell_other w _ _ _ (by simp; omega))⟩, ⟨rfl, rfl, rfl, by simp, fun k _ ho => heap_setCell_other w _ _ _ (by simp; omega)⟩⟩

theorem and255 (y : Int) : 0 ≤ bits .and .i64 y 255 ∧ bits .and .i64 y 255 ≤ 255 := by
  have hx : ((BitVec.ofInt 64 y &&& BitVec.ofInt 64 255).toNat) ≤ 255 := by
    rw [BitVec.toNat_and]
    exact Nat.and_le_right
  show 0 ≤ IntKind.i64.wrap ((BitVec.ofInt 64 y &&& BitVec.ofInt 64 255).toNat : Int) ∧ IntKind.i64.wrap ((BitVec.ofInt 64 y &&& BitVec.ofInt 64 255).toNat : Int) ≤ 255
  rw [IntKind.wrap_i64]
  omega

/-- A number drawn: between these bounds, and only the cursor has turned. -/
def Drawn (g : Nat) (lo hi : Int) (w : World) (e : Ending) (w' : World) : Prop := ∃ x : Int, e = .returned (.int .i64 x) ∧ lo ≤ x ∧ x ≤ hi ∧ Cur w' g ∧ Upd g (g + 1) w w'

set_option maxHeartbeats 400000 in
theorem l01Byte_any (g : Nat) (w : World) (hc : Cur w g) : Calls Tryz.prog 104 #[.pointer (some ⟨g, 0, none⟩)] w (Drawn g 0 255 w) := by
  obtain ⟨A, n, c, i, h, hc⟩ := hc
  obtain ⟨c0, c1, c2, hf⟩ := hc.cell
  have hf2 := hf 2
  clear hf
  go_enter Tryz.func104, Tryz.ntmps104
  go_wp2
  generalize wrap64 (wrap64 (h * 6364136223846793005) + 1442695040888963407) = y
  have H := hc.set2 y
  clear hc c0 c1 c2 hf2
  generalize w.setCell { block := g, off := 2 } (Value.int IntKind.i64 y) = w1 at H ⊢
  obtain ⟨hc, hu⟩ := H
  obtain ⟨c0, c1, c2, hf⟩ := hc.cell
  have hf1 := hf 1
  clear hf
  have hn := hc.2.1
  by_cases hin : i < n
  · obtain ⟨b, off, z, rfl, hb, hz, hz0, hz1⟩ := hc.2.2.2.at_ hin
    have HC := Lib.hid hc
    clear hc
    go_quiet (fail)
    go_wp2
    go_quiet (fail)
    go_wp2
    go_quiet (fail)
    go_wp2
    go_ret
    have hs := fun m => (HC.out.same ((Same.refl w1).drewN m)).set1 hin
    exact ⟨_, rfl, (and255 _).1, (and255 _).2, ⟨_, _, _, _, _, (hs _).1⟩, (hu.drewN _).trans (hs _).2⟩
  · have HC := Lib.hid hc
    clear hc
    go_quiet (fail)
    go_wp2
    go_quiet (fail)
    go_wp2
    go_ret
    exact ⟨_, rfl, (and255 _).1, (and255 _).2, ⟨_, _, _, _, _, HC.out.same (((Same.refl w1).drewN _).drewN _)⟩, (hu.drewN _).drewN _⟩

theorem Drawn.weak {g : Nat} {lo hi lo' hi' : Int} {w : World} {e : Ending} {w' : World} (h : Drawn g lo hi w e w') (h1 : lo' ≤ lo) (h2 : hi ≤ hi') : Drawn g lo' hi' w e w' := by
  obtain ⟨x, he, hl, hh, hr⟩ := h
  exact ⟨x, he, by omega, by omega, hr⟩

set_option maxHeartbeats 400000 in
theorem l01Below_any (g : Nat) (n : Int) (w : World) (hn : 0 < n) (hm : n ≤ 1000000000) (hc : Cur w g) : Calls Tryz.prog 46 #[.pointer (some ⟨g, 0, none⟩), .int .i64 n] w (Drawn g 0 (n - 1) w) := by
  by_cases hs : n ≤ 256
  · go_enter Tryz.func46, Tryz.ntmps46
    go_wp2_with fail
    refine (l01Byte_any g _ hc).mono ?_
    rintro e w1 ⟨x, rfl, h0, h1, hc1, hu1⟩
    go_wp2_with fail
    go_ret
    exact ⟨_, rfl, Int.emod_nonneg _ (by omega), by have := Int.emod_lt_of_pos x hn; omega, hc1, hu1⟩
  · go_enter Tryz.func46, Tryz.ntmps46
    go_wp2_with fail
    refine (l01Byte_any g _ hc).mono ?_
    rintro e w1 ⟨x, rfl, h0, h1, hc1, hu1⟩
    go_wp2_with fail
    refine (l01Byte_any g _ hc1).mono ?_
    rintro e w2 ⟨x2, rfl, h02, h12, hc2, hu2⟩
    go_wp2_with fail
    refine (l01Byte_any g _ hc2).mono ?_
    rintro e w3 ⟨x3, rfl, h03, h13, hc3, hu3⟩
    go_wp2_with fail
    refine (l01Byte_any g _ hc3).mono ?_
    rintro e w4 ⟨x4, rfl, h04, h14, hc4, hu4⟩
    go_wp2_with fail
    go_ret
    exact ⟨_, rfl, Int.emod_nonneg _ (by omega), by have := Int.emod_lt_of_pos (x * 16777216 + x2 * 65536 + x3 * 256 + x4) hn; omega, hc4, ((hu1.trans hu2).trans hu3).trans hu4⟩

/-- The cursor over a slice of bytes. -/
def RetCur (w : World) (e : Ending) (w' : World) : Prop := ∃ g, e = .returned (.pointer (some ⟨g, 0, none⟩)) ∧ w.heap.size ≤ g ∧ Cur w' g ∧ Same w w'

set_option maxHeartbeats 400000 in
theorem l01New_any (A : Option Addr) (n c : Nat) (w : World) (hn : n ≤ 1048576) (hA : BytesAt w w.heap.size A n) : Calls Tryz.prog 45 #[.slice A n c] w (RetCur w) := by
  go_enter Tryz.func45, Tryz.ntmps45
  go_wp2
  go_loop [3, 4] (fun h i => ∃ (k : Nat) (y : Int), k ≤ n ∧ i = .int .i64 k ∧ h = .int .i64 y) (fun _ i => n - (intOf i).toNat)
  case atStart => exact ⟨0, _, Nat.zero_le _, rfl, rfl⟩
  case round =>
    obtain ⟨k, y, hk, rfl, rfl⟩ := hrel
    by_cases hlt : k < n ∧ (k : Int) < 4000
    · obtain ⟨hlt, h4⟩ := hlt
      obtain ⟨b, off, z, rfl, hb, hz, hz0, hz1⟩ := hA.at_ hlt
      clear hA
      go_wp2
      go_round
      case rel => exact ⟨k + 1, _, hlt, by go_num, rfl⟩
      case measure => simp [intOf]; omega
    · by_cases hkn : k < n
      · have h4 : ¬ (k : Int) < 4000 := fun h => hlt ⟨hkn, h⟩
        clear hlt
        go_wp2
        go_ret
        exact ⟨w.heap.size, rfl, Nat.le_refl _, ⟨A, n, c, 0, y, heap_alloc_new w _, hn, Nat.zero_le _, hA.keep fun p hp => (Same.refl w |>.alloc _).cell hp⟩, (Same.refl w).alloc _⟩
      · go_wp2
        all_goals go_ret
        all_goals exact ⟨w.heap.size, rfl, Nat.le_refl _, ⟨A, n, c, 0, y, heap_alloc_new w _, hn, Nat.zero_le _, hA.keep fun p hp => (Same.refl w |>.alloc _).cell hp⟩, (Same.refl w).alloc _⟩

/-- One of a list of integers that the call has laid out. -/
def Picked (g : Nat) (zs : List Int) (w : World) (e : Ending) (w' : World) : Prop := ∃ x : Int, e = .returned (.int .i64 x) ∧ x ∈ zs ∧ Cur w' g ∧ Upd g (g + 1) w w'
set_option maxHeartbeats 400000 in
theorem pickInt_any (g b : Nat) (zs : List Int) (w : World) (hl : 0 < zs.length) (hm : zs.length ≤ 1000) (hb : b ≠ g) (hbs : b < w.heap.size) (hz : ∀ k x, zs[k]? = some x → w.cell? ⟨b, k, none⟩ = some (.int .i64 x)) (hc : Cur w g) :
    Calls Tryz.prog 162 #[.pointer (some ⟨g, 0, none⟩), .slice (some ⟨b, 0, none⟩) zs.length zs.length] w (Picked g zs w) := by
  go_enter Tryz.func162, Tryz.ntmps162
  go_wp2_with fail
  refine (l01Below_any g zs.length _ (by omega) (by omega) hc).mono ?_
  rintro e w1 ⟨x, rfl, h0, h1, hc1, hu1⟩
  obtain ⟨k, rfl⟩ : ∃ k : Nat, x = k := ⟨x.toNat, by omega⟩
  have hk : k < zs.length := by omega
  obtain ⟨z, hzk⟩ : ∃ z, zs[k]? = some z := ⟨_, List.getElem?_eq_getElem hk⟩
  have hcell := hz k z hzk
  rw [← hu1.cell (p := ⟨b, k, none⟩) hbs (by simp; omega)] at hcell
  have HZ := Lib.hid (List.mem_of_getElem? hzk)
  clear hz hzk
  go_wp2
  go_ret
  exact ⟨z, rfl, HZ.out, hc1, hu1⟩

/-- A list of integers drawn: it has these; the cursor has turned. -/
def DrawnI (g : Nat) (P : List Int → Prop) (w : World) (e : Ending) (w' : World) : Prop :=
  ∃ (zs : List Int) (A : Option Addr) (c : Nat), e = .returned (.slice A zs.length c) ∧ P zs ∧ OwnI w' w.heap.size (.slice A zs.length c) zs ∧ Cur w' g ∧ Upd g (g + 1) w w'
/-- A list of integers drawn from bytes. -/
def GotI (P : List Int → Prop) (w : World) (e : Ending) (w' : World) : Prop :=
  ∃ (zs : List Int) (A : Option Addr) (c : Nat), e = .returned (.slice A zs.length c) ∧ P zs ∧ OwnI w' w.heap.size (.slice A zs.length c) zs ∧ Same w w'

theorem big_no (A : Option Addr) (n c : Nat) (w : World) (hn : n ≤ 1048576) : Calls Tryz.prog 10 #[.slice A n c] w fun e w' => e = .returned (.bool false) ∧ w = w' := by
  have hb : ¬ (1048576 : Int) < (n : Int) := by omega
  go_enter Tryz.func10, Tryz.ntmps10
  go_wp2
  go_ret
  exact ⟨ret_bool (by simp), rfl⟩
theorem big_yes (A : Option Addr) (n c : Nat) (w : World) (_hn : n ≤ 9223372036854775807) (h : ¬ n ≤ 1048576) : Calls Tryz.prog 10 #[.slice A n c] w fun e w' => e = .returned (.bool true) ∧ w = w' := by
  have hb : (1048576 : Int) < (n : Int) := by omega
  go_enter Tryz.func10, Tryz.ntmps10
  go_wp2
  go_ret
  exact ⟨rfl, rfl⟩

/-- Lists of records drawn. -/
def DrawnR {T : Type} (ty : TypeId) (sz : Nat) (cells : T → List Value) (g : Nat) (P : List T → Prop) (w : World) (e : Ending) (w' : World) : Prop :=
  ∃ (L : List T) (A : Option Addr) (c : Nat), e = .returned (.slice A L.length c) ∧ P L ∧ OwnR ty sz cells w' w.heap.size (.slice A L.length c) L ∧ Cur w' g ∧ Upd g (g + 1) w w'
def GotR {T : Type} (ty : TypeId) (sz : Nat) (cells : T → List Value) (P : List T → Prop) (w : World) (e : Ending) (w' : World) : Prop :=
  ∃ (L : List T) (A : Option Addr) (c : Nat), e = .returned (.slice A L.length c) ∧ P L ∧ OwnR ty sz cells w' w.heap.size (.slice A L.length c) L ∧ Same w w'
theorem GotR.of {T : Type} {ty : TypeId} {sz : Nat} {cells : T → List Value} {P : List T → Prop} {w w' : World} {v : Value} {L : List T} (h : OwnR ty sz cells w' w.heap.size v L) (hp : P L) (hs : Same w w') : GotR ty sz cells P w (.returned v) w' := by
  obtain ⟨A, c, rfl⟩ := h.form
  exact ⟨L, A, c, rfl, hp, h, hs⟩
theorem DrawnR.of {T : Type} {ty : TypeId} {sz : Nat} {cells : T → List Value} {g : Nat} {P : List T → Prop} {w w' : World} {v : Value} {L : List T} (h : OwnR ty sz cells w' w.heap.size v L) (hp : P L) (hc : Cur w' g) (hs : Upd g (g + 1) w w') :
    DrawnR ty sz cells g P w (.returned v) w' := by
  obtain ⟨A, c, rfl⟩ := h.form
  exact ⟨L, A, c, rfl, hp, h, hc, hs⟩
theorem Cur.drew {w w' : World} {g : Nat} (h : Cur w g) (hs : Drew w w') : Cur w' g := h.same hs.same
theorem GotI.of {P : List Int → Prop} {w w' : World} {v : Value} {zs : List Int} (h : OwnI w' w.heap.size v zs) (hp : P zs) (hs : Same w w') : GotI P w (.returned v) w' := by
  obtain ⟨A, c, rfl⟩ := h.form
  exact ⟨zs, A, c, rfl, hp, h, hs⟩
theorem DrawnI.of {g : Nat} {P : List Int → Prop} {w w' : World} {v : Value} {zs : List Int} (h : OwnI w' w.heap.size v zs) (hp : P zs) (hc : Cur w' g) (hs : Upd g (g + 1) w w') : DrawnI g P w (.returned v) w' := by
  obtain ⟨A, c, rfl⟩ := h.form
  exact ⟨zs, A, c, rfl, hp, h, hc, hs⟩


set_option maxHeartbeats 400000 in
theorem drawPlaces_any (A : Option Addr) (n c : Nat) (w : World) (hn : n ≤ 1048576) (hA : BytesAt w w.heap.size A n) : Calls Tryz.prog 12 #[.slice A n c] w (GotI Places w) := by
  go_enter Tryz.func12, Tryz.ntmps12
  go_wp2_with fail
  refine (l01New_any A n c _ hn hA).mono ?_
  rintro e w1 ⟨g, rfl, hg0, hc1, hs1⟩
  have hg1 := hc1.lt
  have hsz := hs1.size
  go_wp2
  go_loopw [4, 5] (fun o i wr => ∃ (k : Nat) (zs : List Int), k ≤ 12 ∧ i = .int .i64 k ∧ Hid (zs.length = k) ∧ Hid (∀ x ∈ zs, 0 ≤ x ∧ x ≤ 9999) ∧ OwnI wr w1.heap.size o zs ∧ Cur wr g ∧ Same w wr ∧ w1.heap.size ≤ wr.heap.size) (fun _ i _ => 12 - (intOf i).toNat)
  case atStart => exact ⟨0, [], by omega, rfl, rfl, by simp [Hid], OwnI.empty _ (Nat.le_refl _), hc1.same ((Same.refl _).alloc _), hs1.alloc _, by simp⟩
  case round =>
    obtain ⟨k, zs, hk, rfl, hl, hz, hown, hc, hs, hw⟩ := hrel
    have hl' : zs.length ≤ 1000000000 := by have := hl.out; omega
    by_cases hlt : (k : Int) < 12
    · go_wp2_with fail
      refine (l01Below_any g 10000 _ (by omega) (by omega) hc).mono ?_
      rintro e w2 ⟨x, rfl, h0, h1, hc2, hu2⟩
      replace hown := hown.upd hu2 hown.zn (.inr (by omega))
      have hs2 := hs.upds hu2 hg0
      have hw2 := hu2.size
      clear hu2
      go_wp2_with (at_builtin; refine appI _ rfl (.tmp 13) (.tmp 16) rfl w1.heap.size _ _ rfl (OwnI.alloc hown _) w2.heap.size 1 x rfl (by simp) hl' (by simp; omega) ?_)
      intro v' w3 ho3 hup
      have hs3 := (hs2.alloc _).upds hup hsz
      have hc3 := (hc2.same ((Same.refl _).alloc _)).upd hup hg1
      have hw3 := hup.size
      simp only [World.size_alloc] at hw3
      clear hup
      go_wp2
      go_roundw
      case rel => exact ⟨k + 1, _, by omega, by go_num, by have := hl.out; show List.length _ = _; simp [this], by show ∀ x ∈ _, _; intro y hy; rcases List.mem_append.1 hy with h | h; exact hz.out y h; simp at h; omega, ho3, hc3, hs3, by omega⟩
      case measure => simp [intOf]; omega
    · go_wp2
      go_ret
      exact GotI.of (hown.base hsz) ⟨by rw [hl.out]; omega, hz.out⟩ hs

end Go.Proofs.YtjfmknhnplefnaaGreat
