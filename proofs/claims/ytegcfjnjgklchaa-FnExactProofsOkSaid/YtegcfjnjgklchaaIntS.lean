/-
  Copies of lists of integers: toIntS and eqIntS.
-/
import Derived.Test.YtegcfjnjgklchaaBase
namespace Go.Proofs.Ytegcfjnjgklchaa
open Go.RowKit

theorem Try.infoInt : (Try.prog.info? 3).map (fun i => (i.zero, i.size, i.bytes)) = some (some (.int .i64 0), 1, 8) := by kernel_rfl

/-- A row of the call's own that holds integers. -/
def OwnI (w : World) (base : Nat) (v : Value) (zs : List Int) : Prop := w.ownsRow base 3 1 v zs.length (zs.map (Value.int .i64))

theorem OwnI.size {w : World} {base : Nat} {v : Value} {zs : List Int} {g n c : Nat} (h : OwnI w base v zs) (hv : v = .slice (some ⟨g, 0, none⟩) n c) : base ≤ g ∧ g < w.heap.size :=
  World.ownsRow.lt h g (by subst hv; rfl)

theorem OwnI.ints {w : World} {base : Nat} {A : Option Addr} {n c : Nat} {zs : List Int} (h : OwnI w base (.slice A n c) zs) : IntsAt w A zs := by
  rcases zs with _ | ⟨z, zs⟩
  · exact .inl rfl
  · have hlt := World.ownsRow.lt h
    rcases h.2 with ⟨hv, hn⟩ | ⟨g, cap, cur, hv, hb, hh, hr⟩
    · simp at hn
    · injection hv with hv
      subst hv
      refine .inr ⟨g, 0, rfl, (hlt g rfl).2, fun k x hx => ?_⟩
      have := World.ownsRow.cells h (g := g) rfl k (.int .i64 x) (by rw [List.getElem?_map, hx]; rfl)
      rw [Addr.add_lit] at this
      exact this

/-- What came in as a slice of integers reads as a list. -/
theorem ints_opened {W : World} {x : Addr} {l c : Nat} {zs : List Int} (hl : l ≤ c) (hm : c ≤ maxLen) (hz : zs.length = c) (hcell : ∀ i, i < zs.length → W.cell? (x.add i) = some (.int .i64 (zs.getD i 0))) :
    ∃ ys : List Int, l = ys.length ∧ IntsAt W (some x) ys ∧ ys.length ≤ 9223372036854775807 := by
  refine ⟨zs.take l, by simp; omega, ?_, by unfold maxLen at hm; simp; omega⟩
  rcases Nat.eq_zero_or_pos l with h0 | h0
  · subst h0; exact .inl (by simp)
  · obtain ⟨b, off, spot⟩ := x
    have hc := hcell 0 (by omega)
    have hspot : spot = none := by simpa [Addr.add] using World.cell?_spot hc
    subst hspot
    refine .inr ⟨b, off, rfl, World.block_lt_of_cell? W _ hc, fun k y hy => ?_⟩
    have hk : k < l := by
      have := (List.getElem?_eq_some_iff.1 hy).1
      simp at this; omega
    have h1 := hcell k (by omega)
    rw [Addr.add_lit] at h1
    rw [h1]
    have h2 : zs[k]? = some y := by rw [List.getElem?_take] at hy; simpa [hk] using hy
    simp [List.getD, h2]

set_option maxHeartbeats 400000 in
theorem toIntS_any (A : Option Addr) (c : Nat) (zs : List Int) (w : World) (hz : zs.length ≤ 1048576) (hA : IntsAt w A zs) :
    Calls Try.prog 16 #[.slice A zs.length c] w fun e w' => e = .returned (.slice (some ⟨w.heap.size, 0, none⟩) zs.length zs.length) ∧
      OwnI w' w.heap.size (.slice (some ⟨w.heap.size, 0, none⟩) zs.length zs.length) zs ∧ Same w w' := by
  obtain ⟨i0, hi, hz0, hz1, hz2⟩ := info_parts Try.infoInt
  go_enter Try.func16, Try.ntmps16
  go_wp2_with (at_make; refine wpList_make_full _ rfl _ _ 22 rfl w.heap.size 3 i0 (.int .i64 0) 1 Try.underlying22 hi hz0 hz1 _ _ _ _ zs.length rfl rfl rfl rfl ?b2 ?b3 ?b4 ?_)
  case b2 => rw [hz2]; omega
  case b3 => unfold maxLen; omega
  case b4 => exact Nat.le_refl _
  intro w1 hown hgrow
  have hs1 : Same w w1 := (Same.refl w).grown hgrow (fun g h => by cases h)
  have hown1 := Lib.hid hown
  clear hown hgrow
  go_wp2
  go_loopw [4] (fun i wr => ∃ k : Nat, k ≤ zs.length ∧ i = .int .i64 k ∧
      Hid (wr.ownsRow w.heap.size 3 1 (.slice (some ⟨w.heap.size, 0, none⟩) zs.length zs.length) zs.length (mix (zs.map (Value.int .i64)) (List.replicate zs.length (.int .i64 0)) k)) ∧ Same w wr) (fun i _ => zs.length - (intOf i).toNat)
  case atStart =>
    refine ⟨0, Nat.zero_le _, rfl, ?_, hs1⟩
    have := hown1.out
    rw [mix_zero]
    show World.ownsRow _ _ _ _ _ _ _
    simpa only [Value.cells, Nat.mul_one, toList_madeCells_one] using this
  case round =>
    obtain ⟨k, hk, rfl, hown, hs⟩ := hrel
    by_cases hlt : k < zs.length
    · obtain ⟨b, off, x, rfl, hcx, HX, hb⟩ := (hA.same hs).at_ hlt
      clear hA
      have hco := hown.out.cellAt k (by omega)
      have hfo := hown.out.frozenAt k
      obtain ⟨u, hu⟩ : ∃ u, (mix (zs.map (Value.int .i64)) (List.replicate zs.length (.int .i64 0)) k)[k]? = some u := ⟨_, List.getElem?_eq_getElem (by rw [mix_length (by simp) (by simp; omega)]; simpa using hlt)⟩
      rw [hu] at hco
      clear hu
      have hst := hown.out.stored k (.int .i64 x)
      rw [mix_set (x := Value.int .i64 x) (xs := zs.map (Value.int .i64)) (zs := List.replicate zs.length (.int .i64 0)) (k := k) (by rw [List.getElem?_map, HX.out]; rfl) (by simp)] at hst
      have HST := Lib.hid hst
      clear hst
      go_wp2
      go_roundw
      case rel => exact ⟨k + 1, hlt, by go_num, HST.out.1, hs.setCell (Nat.le_refl _) _⟩
      case measure => simp [intOf]; omega
    · go_wp2
      go_ret
      refine ⟨rfl, ?_, hs⟩
      have := hown.out
      rwa [mix_full _ _ (by simp; omega) (by simp)] at this

set_option maxHeartbeats 400000 in
theorem eqIntS_any (A B : Option Addr) (c d : Nat) (xs ys : List Int) (w : World) (hx : xs.length ≤ 9223372036854775807) (hy : ys.length ≤ 9223372036854775807) (hA : IntsAt w A xs) (hB : IntsAt w B ys) :
    Calls Try.prog 18 #[.slice A xs.length c, .slice B ys.length d] w fun e w' => e = .returned (.bool (decide (xs = ys))) ∧ Drew w w' := by
  by_cases hl : xs.length = ys.length
  · have hne : ((xs.length : Int) != (ys.length : Int)) = false := by rw [hl]; simp
    have HL := Lib.hid hl
    clear hl
    go_enter Try.func18, Try.ntmps18
    go_wp2
    go_loopw [5] (fun i wr => ∃ k : Nat, k ≤ xs.length ∧ i = .int .i64 k ∧ Hid (xs.take k = ys.take k) ∧ Drew w wr) (fun i _ => xs.length - (intOf i).toNat)
    case atStart => exact ⟨0, Nat.zero_le _, rfl, rfl, Drew.refl _⟩
    case round =>
      obtain ⟨k, hk, rfl, hall, hd⟩ := hrel
      by_cases hlt : k < xs.length
      · obtain ⟨b, off, x, rfl, hcx, HX, _⟩ := (hA.drew hd).at_ hlt
        have hlt' : k < ys.length := by have := HL.out; omega
        obtain ⟨b', off', y, rfl, hcy, HY, _⟩ := (hB.drew hd).at_ hlt'
        clear hA hB
        by_cases hxy : x = y
        · subst hxy
          go_wp2
          go_quiet (fail)
          go_wp2
          go_roundw
          case rel => exact ⟨k + 1, hlt, by go_num, take_eq_succ hall.out HX.out HY.out, hd.drewN _⟩
          case measure => simp [intOf]; omega
        · have hb : (x != y) = true := by simp [hxy]
          have HN := Lib.hid hxy
          clear hxy
          go_wp2
          go_quiet (fail)
          go_wp2
          go_ret
          refine ⟨ret_bool (Eq.symm (decide_eq_false (fun e => HN.out ?_))), hd.drewN _⟩
          subst e
          have := HX.out.symm.trans HY.out
          simpa using this
      · go_wp2
        go_ret
        refine ⟨ret_bool (Eq.symm (decide_eq_true ?_)), hd⟩
        have h1 := hall.out
        have h2 := HL.out
        rw [show k = xs.length by omega, List.take_length, h2, List.take_length] at h1
        exact h1
  · have hne : ((xs.length : Int) != (ys.length : Int)) = true := by simp; omega
    have HL := Lib.hid hl
    clear hl
    go_enter Try.func18, Try.ntmps18
    go_wp2
    go_ret
    exact ⟨ret_bool (Eq.symm (decide_eq_false (fun e => HL.out (by rw [e])))), Drew.refl _⟩
end Go.Proofs.Ytegcfjnjgklchaa
