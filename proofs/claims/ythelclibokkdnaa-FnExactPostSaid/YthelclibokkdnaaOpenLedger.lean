/-
  What came in, opened: ledgers and books.
-/
import Derived.Test.YthelclibokkdnaaOpenS
import Derived.Test.YthelclibokkdnaaLedger
namespace Go.Proofs.Ythelclibokkdnaa
open Go.RowKit Go.ChangeShapes Go.WideShapes Go.Deep

theorem openLedger {H : Type} {enc : TypeId × Value → H} {w : World} {base : Nat} {held : Bool} {fuel : Nat} {cs : List Value} {x : DataW H × List MemPlace} (hf : DataW.trod enc Try.prog w base (fun _ => true) held fuel 33 cs = some x) :
    ∃ (A0 : Option Addr) (c0 : Nat) (L0 : List TPosting), cs = [.slice A0 L0.length c0] ∧ (AtPosting w A0 L0 ∧ L0.length ≤ 9223372036854775807) := by
  have hN := trod_struct_len Try.underlying33 (by kernel_rfl : Try.prog.cellsOf 33 = 1) hf
  obtain ⟨u0, rfl⟩ : ∃ u0, cs = [u0] := by
    match cs, hN with
    | [u0], _ => exact ⟨u0, rfl⟩
  obtain ⟨mfa_0, yfa_0, fa_0⟩ := trod_field (ft := 31) Try.underlying33 0 0 1 rfl (by kernel_rfl) hf
  simp only [List.drop_zero, List.take_succ_cons, List.take_zero] at fa_0
  obtain ⟨A0, c0, L0, e0, hr0, hm0⟩ := open_recs (n := 4) (cells := cPosting) (fun φ => (φ 0, φ 1, φ 2, φ 3)) (fun φ => rfl) (by decide) Try.underlying31 Try.underlying23 rfl (by kernel_rfl) (by kernel_rfl) Try.underlying3 (by kernel_rfl) fa_0
  injection e0 with e0 _
  subst e0
  exact ⟨A0, c0, L0, rfl, ⟨hr0, hm0⟩⟩

theorem openBooks {H : Type} {enc : TypeId × Value → H} {w : World} {base : Nat} {held : Bool} {fuel : Nat} {cs : List Value} {x : DataW H × List MemPlace} (hf : DataW.trod enc Try.prog w base (fun _ => true) held fuel 43 cs = some x) :
    ∃ (A0 : Option Addr) (c0 : Nat) (L0 : List TPosting) (z1 : Int), cs = [.slice A0 L0.length c0, .int .i64 z1] ∧ (AtPosting w A0 L0 ∧ L0.length ≤ 9223372036854775807) ∧ (Lit.int .i64 z1).wf = true := by
  have hN := trod_struct_len Try.underlying43 (by kernel_rfl : Try.prog.cellsOf 43 = 2) hf
  obtain ⟨u0, u1, rfl⟩ : ∃ u0 u1, cs = [u0, u1] := by
    match cs, hN with
    | [u0, u1], _ => exact ⟨u0, u1, rfl⟩
  obtain ⟨mfa_0, yfa_0, fa_0⟩ := trod_field (ft := 33) Try.underlying43 0 0 1 rfl (by kernel_rfl) hf
  simp only [List.drop_zero, List.take_succ_cons, List.take_zero] at fa_0
  obtain ⟨mfa0_0, yfa0_0, fa0_0⟩ := trod_field (ft := 31) Try.underlying33 0 0 1 rfl (by kernel_rfl) fa_0
  simp only [List.drop_zero, List.take_succ_cons, List.take_zero] at fa0_0
  obtain ⟨mfa_1, yfa_1, fa_1⟩ := trod_field (ft := 3) Try.underlying43 1 1 1 rfl (by kernel_rfl) hf
  simp only [List.drop_succ_cons, List.drop_zero, List.take_succ_cons, List.take_zero] at fa_1
  obtain ⟨A0, c0, L0, e0, hr0, hm0⟩ := open_recs (n := 4) (cells := cPosting) (fun φ => (φ 0, φ 1, φ 2, φ 3)) (fun φ => rfl) (by decide) Try.underlying31 Try.underlying23 rfl (by kernel_rfl) (by kernel_rfl) Try.underlying3 (by kernel_rfl) fa0_0
  injection e0 with e0 _
  subst e0
  obtain ⟨z1, e1, _, w1⟩ := DataW.trod_int Try.underlying3 fa_1
  injection e1 with e1 _
  subst e1
  exact ⟨A0, c0, L0, z1, rfl, ⟨hr0, hm0⟩, w1⟩
end Go.Proofs.Ythelclibokkdnaa
