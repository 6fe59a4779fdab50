/-
  What came in, opened: runs and banks.
-/
import Derived.Test.YtccgbilgfnoheaaOpenS
import Derived.Test.YtccgbilgfnoheaaBank2
import Derived.Test.YtccgbilgfnoheaaRun2
namespace Go.Proofs.Ytccgbilgfnoheaa
open Go.RowKit Go.ChangeShapes Go.WideShapes Go.Deep

theorem ints_openedW {W : World} {x : Addr} {l c : Nat} {zs : List Int} (hl : l ≤ c) (hm : c ≤ maxLen) (hz : zs.length = c) (hcell : ∀ i, i < zs.length → W.cell? (x.add i) = some (.int .i64 (zs.getD i 0))) (hw : ∀ n ∈ zs, (Lit.int .i64 n).wf = true) :
    ∃ ys : List Int, l = ys.length ∧ IntsAt W (some x) ys ∧ ys.length ≤ 9223372036854775807 ∧ Wide ys := by
  refine ⟨zs.take l, by simp; omega, ?_, by unfold maxLen at hm; simp; omega, fun y hy => hw y (List.mem_of_mem_take hy)⟩
  rcases Nat.eq_zero_or_pos l with h0 | h0
  · subst h0; exact .inl (by simp)
  · obtain ⟨b, off, spot⟩ := x
    have hc := hcell 0 (by omega)
    have hspot : spot = none := by simpa [Addr.add] using World.cell?_spot hc
    subst hspot
    refine .inr ⟨b, off, rfl, World.block_lt_of_cell? W _ hc, fun k y hy => ?_⟩
    have hk : k < l := by
      have := (List.getElem?_eq_some_iff.1 hy).1
      simp at this; omega
    have h1 := hcell k (by omega)
    rw [Addr.add_lit] at h1
    rw [h1]
    have h2 : zs[k]? = some y := by rw [List.getElem?_take] at hy; simpa [hk] using hy
    simp [List.getD, h2]
/-- A slice of integers, each of 64 bits. -/
theorem open_intsW {H : Type} {enc : TypeId × Value → H} {P : Program} {w : World} {base : Nat} {held : Bool} {t e : TypeId} {fuel : Nat} {cs : List Value} {x : DataW H × List MemPlace} (ht : P.underlying t = some (.slice e)) (he : P.underlying e = some (.int .i64)) (hc : P.cellsOf e = 1)
    (h : DataW.trod enc P w base (fun _ => true) held fuel t cs = some x) : ∃ (A : Option Addr) (c : Nat) (zs : List Int), cs = [.slice A zs.length c] ∧ IntsAt w A zs ∧ zs.length ≤ 9223372036854775807 ∧ Wide zs := by
  rcases open_ints ht he hc h with ⟨hcs, _⟩ | ⟨x, l, c, zs, hcs, _, hl, hm, hz, _, hcell, hwz⟩
  · exact ⟨none, 0, [], hcs, .inl rfl, by simp, by simp [Wide]⟩
  · obtain ⟨ys, rfl, h1, h2, h3⟩ := ints_openedW hl hm (by simpa using hz) hcell hwz
    exact ⟨_, _, ys, hcs, h1, h2, h3⟩

theorem openBank {H : Type} {enc : TypeId × Value → H} {w : World} {base : Nat} {held : Bool} {fuel : Nat} {cs : List Value} {x : DataW H × List MemPlace} (hf : DataW.trod enc Try.prog w base (fun _ => true) held fuel 42 cs = some x) :
    ∃ (A0 : Option Addr) (c0 : Nat) (L0 : List Int) (A1 : Option Addr) (c1 : Nat) (L1 : List Int), cs = [.slice A0 L0.length c0, .slice A1 L1.length c1] ∧ (IntsAt w A0 L0 ∧ L0.length ≤ 9223372036854775807 ∧ Wide L0) ∧ (IntsAt w A1 L1 ∧ L1.length ≤ 9223372036854775807 ∧ Wide L1) := by
  have hN := trod_struct_len Try.underlying42 (by kernel_rfl : Try.prog.cellsOf 42 = 2) hf
  obtain ⟨u0, u1, rfl⟩ : ∃ u0 u1, cs = [u0, u1] := by
    match cs, hN with
    | [u0, u1], _ => exact ⟨u0, u1, rfl⟩
  obtain ⟨mfa_0, yfa_0, fa_0⟩ := trod_field (ft := 27) Try.underlying42 0 0 1 rfl (by kernel_rfl) hf
  simp only [List.drop_zero, List.take_succ_cons, List.take_zero] at fa_0
  obtain ⟨mfa_1, yfa_1, fa_1⟩ := trod_field (ft := 27) Try.underlying42 1 1 1 rfl (by kernel_rfl) hf
  simp only [List.drop_succ_cons, List.drop_zero, List.take_succ_cons, List.take_zero] at fa_1
  obtain ⟨A0, c0, L0, e0, hr0, hm0, hv0⟩ := open_intsW Try.underlying27 Try.underlying3 (by kernel_rfl) fa_0
  injection e0 with e0 _
  subst e0
  obtain ⟨A1, c1, L1, e1, hr1, hm1, hv1⟩ := open_intsW Try.underlying27 Try.underlying3 (by kernel_rfl) fa_1
  injection e1 with e1 _
  subst e1
  exact ⟨A0, c0, L0, A1, c1, L1, rfl, ⟨hr0, hm0, hv0⟩, ⟨hr1, hm1, hv1⟩⟩

theorem openRun {H : Type} {enc : TypeId × Value → H} {w : World} {base : Nat} {held : Bool} {fuel : Nat} {cs : List Value} {x : DataW H × List MemPlace} (hf : DataW.trod enc Try.prog w base (fun _ => true) held fuel 49 cs = some x) :
    ∃ (z0 : Int) (A1 : Option Addr) (c1 : Nat) (L1 : List TItem), cs = [.int .i64 z0, .slice A1 L1.length c1] ∧ (Lit.int .i64 z0).wf = true ∧ (AtItem w A1 L1 ∧ L1.length ≤ 9223372036854775807) := by
  have hN := trod_struct_len Try.underlying49 (by kernel_rfl : Try.prog.cellsOf 49 = 2) hf
  obtain ⟨u0, u1, rfl⟩ : ∃ u0 u1, cs = [u0, u1] := by
    match cs, hN with
    | [u0, u1], _ => exact ⟨u0, u1, rfl⟩
  obtain ⟨mfa_0, yfa_0, fa_0⟩ := trod_field (ft := 3) Try.underlying49 0 0 1 rfl (by kernel_rfl) hf
  simp only [List.drop_zero, List.take_succ_cons, List.take_zero] at fa_0
  obtain ⟨mfa_1, yfa_1, fa_1⟩ := trod_field (ft := 47) Try.underlying49 1 1 1 rfl (by kernel_rfl) hf
  simp only [List.drop_succ_cons, List.drop_zero, List.take_succ_cons, List.take_zero] at fa_1
  obtain ⟨z0, e0, _, w0⟩ := DataW.trod_int Try.underlying3 fa_0
  injection e0 with e0 _
  subst e0
  obtain ⟨A1, c1, L1, e1, hr1, hm1⟩ := open_recs (n := 3) (cells := cItem) (fun φ => (φ 0, φ 1, φ 2)) (fun φ => rfl) (by decide) Try.underlying47 Try.underlying99 rfl (by kernel_rfl) (by kernel_rfl) Try.underlying3 (by kernel_rfl) fa_1
  injection e1 with e1 _
  subst e1
  exact ⟨z0, A1, c1, L1, rfl, w0, ⟨hr1, hm1⟩⟩
end Go.Proofs.Ytccgbilgfnoheaa
