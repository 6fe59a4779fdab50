/-
  FnExactAfterReturns holds: for every bank and list of keys the program's AfterReturns and the reference's answer alike, and the arguments are left as they were. No condition.
-/
import Derived.Test.YtccgbilgfnoheaaRows
import Derived.Test.YtccgbilgfnoheaaLawAfter
import Derived.Test.YtccgbilgfnoheaaOpenBank
import Derived.ProofKit
import Derived.OpenShut
import Derived.ShutString
import Derived.ChangeOld
import Derived.Below
namespace Go.Proofs.Ytccgbilgfnoheaa.fnExactAfterReturnsRow
open Go.ChangeShapes Go.WideShapes Go.ChangeAt Go.RowKit
open Go.ChangeMaps (open_string shut_string)
set_option linter.unusedVariables false

theorem own : ownKnob Try.prog.godebug = none := by kernel_rfl
theorem laidOut : laidOutB Try.prog = true := by kernel_rfl

set_option maxRecDepth 100000 in
set_option maxHeartbeats 4000000 in
theorem lifted (os : Os) (started : os.Started) (H : Type) (enc : TypeId × Value → H) :
    ReturnsInHanded {} Try.checked os 9 .any (Rows.fnExactAfterReturnsSpec.pre6 enc Try.prog Try.f9 Rows.fnExactAfterReturnsRow.domain false) (Rows.fnExactAfterReturnsSpec.post enc Try.prog Try.f9 false true false false) := by
  refine returnsInHanded_of_change (C := Try.checked) own started (by kernel_rfl) Try.func9
    (ChangeSpec.witness6 (enc := enc) (C := Try.checked) false ⟨#[], #[.agg #[.slice none 0 0, .slice none 0 0], .slice none 0 0], []⟩ 8 (by kernel_rfl) (by kernel_rfl) (by kernel_rfl) (by kernel_rfl)) ?_
  intro W base args ds gs before hval0 hW hcnd _
  have hval : ∀ (j : Nat) t v, Try.f9.params[j]? = some t → args[j]? = some v → Value.okWide Try.prog W .any base t v := hval0
  have hW' := hW
  obtain ⟨p, q, hA0, hV, rfl, hfz, hnd⟩ := hW
  have hA : DataW.TrodAll enc Try.prog W 0 (fun _ => true) true Try.f9.params.toList args.toList ds p := hA0
  rw [Try.params9] at hA hval
  obtain ⟨v0, vs0, d0, ds0, p0, q0, hargs, rfl, rfl, h0, r0⟩ := trodAll_cons hA
  obtain ⟨v1, vs1, d1, ds1, p1, q1, rfl, rfl, rfl, h1, r1⟩ := trodAll_cons r0
  obtain ⟨rfl, rfl, rfl⟩ := trodAll_nil r1
  obtain rfl : args = #[v0, v1] := by cases args; simp_all
  obtain ⟨rfl, rfl⟩ := trodVars_none hV
  obtain ⟨cs0, rfl, _⟩ := okWide_struct Try.underlying42 (hval 0 42 v0 rfl rfl)
  have k0 := h0
  have lt0 : ∀ x ∈ p0, x.block < W.heap.size := by obtain ⟨m, hm⟩ := k0; exact DataW.trod_lt m _ _ _ hm
  obtain ⟨A0_0, c0_0, L0_0, A0_1, c0_1, L0_1, ecs0, b0_0, b0_1⟩ : ∃ (A0_0 : Option Addr) (c0_0 : Nat) (L0_0 : List Int) (A0_1 : Option Addr) (c0_1 : Nat) (L0_1 : List Int), cs0 = #[.slice A0_0 L0_0.length c0_0, .slice A0_1 L0_1.length c0_1] ∧ (IntsAt W A0_0 L0_0 ∧ L0_0.length ≤ 9223372036854775807 ∧ Wide L0_0) ∧ (IntsAt W A0_1 L0_1 ∧ L0_1.length ≤ 9223372036854775807 ∧ Wide L0_1) := by
    obtain ⟨fuel, hf⟩ := h0
    obtain ⟨l0⟩ := cs0
    obtain ⟨A0_0, c0_0, L0_0, A0_1, c0_1, L0_1, e, b0, b1⟩ := openBank hf
    exact ⟨A0_0, c0_0, L0_0, A0_1, c0_1, L0_1, congrArg Array.mk e, b0, b1⟩
  subst ecs0
  obtain ⟨A1, l1, c1, rfl⟩ := okWide_slice Try.underlying27 (hval 1 27 v1 rfl rfl)
  have k1 := h1
  have lt1 : ∀ x ∈ p1, x.block < W.heap.size := by obtain ⟨m, hm⟩ := k1; exact DataW.trod_lt m _ _ _ hm
  obtain ⟨zs1, hl1, hr1, hm1⟩ : ∃ zs : List Int, l1 = zs.length ∧ IntsAt W A1 zs ∧ zs.length ≤ 9223372036854775807 := by
    obtain ⟨fuel, hf⟩ := h1
    rcases open_ints Try.underlying27 Try.underlying3 (by kernel_rfl) hf with ⟨hcs, _⟩ | ⟨x, l, c, zs, hcs, _, hl, hm, hz, _, hcell, hwz⟩
    · simp [Value.cells] at hcs
      obtain ⟨rfl, rfl, rfl⟩ := hcs
      exact ⟨[], rfl, .inl rfl, by simp⟩
    · simp [Value.cells] at hcs
      obtain ⟨rfl, rfl, rfl⟩ := hcs
      exact ints_opened hl hm (by simpa using hz) hcell
  subst hl1
  clear hA0 hval0
  refine (lawAfterReturns A0_0 c0_0 L0_0 A0_1 c0_1 L0_1 A1 c1 zs1 W b0_0.2.1 b0_0.1 b0_0.2.2 b0_1.2.1 b0_1.1 b0_1.2.2 hm1 hr1).mono fun e W' ⟨he, bel⟩ => ?_
  subst he
  exact ⟨_, rfl, _, _, _, [], _, [], hW', trodAll_mk1 (shut_bool Try.underlying4 _), (trodAll_cons_mk (Below.trod laidOut (by kernel_rfl) (of_decide_eq_true (by kernel_rfl)) k0 bel lt0) (trodAll_cons_mk (Below.trod laidOut (by kernel_rfl) (of_decide_eq_true (by kernel_rfl)) k1 bel lt1) trodAll_mk0)), rfl, Below.frame bel _, fun h => by cases h⟩

theorem over : Rows.fnExactAfterReturnsRow.holds Try.pinned (OpenSpec.ofChange Rows.fnExactAfterReturnsSpec) :=
  OpenClaim.holds_of_wide 9 Try.f9 rfl rfl rfl rfl rfl rfl rfl ⟨rfl, rfl, rfl, rfl, rfl⟩ rfl rfl rfl rfl rfl (by kernel_rfl) Try.func9 (by kernel_rfl)
    (of_decide_eq_true (by kernel_rfl)) (by unfold Func.isWrapper; first | (rw [if_pos (by decide +kernel)]; kernel_rfl) | (rw [if_neg (by decide +kernel)]; exact ⟨rfl, rfl⟩))
    (fun os started H enc _ => lifted os started H enc)
end Go.Proofs.Ytccgbilgfnoheaa.fnExactAfterReturnsRow
namespace Go.Proofs.Ytccgbilgfnoheaa
theorem fnExactAfterReturns_holds : Rows.FnExactAfterReturnsSaid := fnExactAfterReturnsRow.over
end Go.Proofs.Ytccgbilgfnoheaa
