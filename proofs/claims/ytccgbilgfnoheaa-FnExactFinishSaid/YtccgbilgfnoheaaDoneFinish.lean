/-
  FnExactFinish holds: for every run and bank the program's Finish and the reference's answer alike, and the arguments are left as they were. No condition.
-/
import Derived.Test.YtccgbilgfnoheaaRows
import Derived.Test.YtccgbilgfnoheaaLawFinish
import Derived.Test.YtccgbilgfnoheaaOpenBank
import Derived.ProofKit
import Derived.OpenShut
import Derived.ShutString
import Derived.ChangeOld
import Derived.Below
namespace Go.Proofs.Ytccgbilgfnoheaa.fnExactFinishRow
open Go.ChangeShapes Go.WideShapes Go.ChangeAt Go.RowKit
open Go.ChangeMaps (open_string shut_string)
set_option linter.unusedVariables false

theorem own : ownKnob Try.prog.godebug = none := by kernel_rfl
theorem laidOut : laidOutB Try.prog = true := by kernel_rfl

set_option maxRecDepth 100000 in
set_option maxHeartbeats 4000000 in
theorem lifted (os : Os) (started : os.Started) (H : Type) (enc : TypeId × Value → H) :
    ReturnsInHanded {} Try.checked os 15 .any (Rows.fnExactFinishSpec.pre6 enc Try.prog Try.f15 Rows.fnExactFinishRow.domain false) (Rows.fnExactFinishSpec.post enc Try.prog Try.f15 false true false false) := by
  refine returnsInHanded_of_change (C := Try.checked) own started (by kernel_rfl) Try.func15
    (ChangeSpec.witness6 (enc := enc) (C := Try.checked) false ⟨#[], #[.agg #[.int .i64 0, .slice none 0 0], .agg #[.slice none 0 0, .slice none 0 0]], []⟩ 8 (by kernel_rfl) (by kernel_rfl) (by kernel_rfl) (by kernel_rfl)) ?_
  intro W base args ds gs before hval0 hW hcnd _
  have hval : ∀ (j : Nat) t v, Try.f15.params[j]? = some t → args[j]? = some v → Value.okWide Try.prog W .any base t v := hval0
  have hW' := hW
  obtain ⟨p, q, hA0, hV, rfl, hfz, hnd⟩ := hW
  have hA : DataW.TrodAll enc Try.prog W 0 (fun _ => true) true Try.f15.params.toList args.toList ds p := hA0
  rw [Try.params15] at hA hval
  obtain ⟨v0, vs0, d0, ds0, p0, q0, hargs, rfl, rfl, h0, r0⟩ := trodAll_cons hA
  obtain ⟨v1, vs1, d1, ds1, p1, q1, rfl, rfl, rfl, h1, r1⟩ := trodAll_cons r0
  obtain ⟨rfl, rfl, rfl⟩ := trodAll_nil r1
  obtain rfl : args = #[v0, v1] := by cases args; simp_all
  obtain ⟨rfl, rfl⟩ := trodVars_none hV
  obtain ⟨cs0, rfl, _⟩ := okWide_struct Try.underlying49 (hval 0 49 v0 rfl rfl)
  have k0 := h0
  have lt0 : ∀ x ∈ p0, x.block < W.heap.size := by obtain ⟨m, hm⟩ := k0; exact DataW.trod_lt m _ _ _ hm
  obtain ⟨z0_0, A0_1, c0_1, L0_1, ecs0, b0_0, b0_1⟩ : ∃ (z0_0 : Int) (A0_1 : Option Addr) (c0_1 : Nat) (L0_1 : List TItem), cs0 = #[.int .i64 z0_0, .slice A0_1 L0_1.length c0_1] ∧ (Lit.int .i64 z0_0).wf = true ∧ (AtItem W A0_1 L0_1 ∧ L0_1.length ≤ 9223372036854775807) := by
    obtain ⟨fuel, hf⟩ := h0
    obtain ⟨l0⟩ := cs0
    obtain ⟨z0_0, A0_1, c0_1, L0_1, e, b0, b1⟩ := openRun hf
    exact ⟨z0_0, A0_1, c0_1, L0_1, congrArg Array.mk e, b0, b1⟩
  subst ecs0
  obtain ⟨cs1, rfl, _⟩ := okWide_struct Try.underlying42 (hval 1 42 v1 rfl rfl)
  have k1 := h1
  have lt1 : ∀ x ∈ p1, x.block < W.heap.size := by obtain ⟨m, hm⟩ := k1; exact DataW.trod_lt m _ _ _ hm
  obtain ⟨A1_0, c1_0, L1_0, A1_1, c1_1, L1_1, ecs1, b1_0, b1_1⟩ : ∃ (A1_0 : Option Addr) (c1_0 : Nat) (L1_0 : List Int) (A1_1 : Option Addr) (c1_1 : Nat) (L1_1 : List Int), cs1 = #[.slice A1_0 L1_0.length c1_0, .slice A1_1 L1_1.length c1_1] ∧ (IntsAt W A1_0 L1_0 ∧ L1_0.length ≤ 9223372036854775807 ∧ Wide L1_0) ∧ (IntsAt W A1_1 L1_1 ∧ L1_1.length ≤ 9223372036854775807 ∧ Wide L1_1) := by
    obtain ⟨fuel, hf⟩ := h1
    obtain ⟨l1⟩ := cs1
    obtain ⟨A1_0, c1_0, L1_0, A1_1, c1_1, L1_1, e, b0, b1⟩ := openBank hf
    exact ⟨A1_0, c1_0, L1_0, A1_1, c1_1, L1_1, congrArg Array.mk e, b0, b1⟩
  subst ecs1
  clear hA0 hval0
  refine (lawFinish z0_0 A0_1 c0_1 L0_1 A1_0 c1_0 L1_0 A1_1 c1_1 L1_1 W b0_1.2 b0_1.1 b1_0.2.1 b1_0.1 b1_0.2.2 b1_1.2.1 b1_1.1 b1_1.2.2).mono fun e W' ⟨he, bel⟩ => ?_
  subst he
  exact ⟨_, rfl, _, _, _, [], _, [], hW', trodAll_mk1 (shut_bool Try.underlying4 _), (trodAll_cons_mk (Below.trod laidOut (by kernel_rfl) (of_decide_eq_true (by kernel_rfl)) k0 bel lt0) (trodAll_cons_mk (Below.trod laidOut (by kernel_rfl) (of_decide_eq_true (by kernel_rfl)) k1 bel lt1) trodAll_mk0)), rfl, Below.frame bel _, fun h => by cases h⟩

theorem over : Rows.fnExactFinishRow.holds Try.pinned (OpenSpec.ofChange Rows.fnExactFinishSpec) :=
  OpenClaim.holds_of_wide 15 Try.f15 rfl rfl rfl rfl rfl rfl rfl ⟨rfl, rfl, rfl, rfl, rfl⟩ rfl rfl rfl rfl rfl (by kernel_rfl) Try.func15 (by kernel_rfl)
    (of_decide_eq_true (by kernel_rfl)) (by unfold Func.isWrapper; first | (rw [if_pos (by decide +kernel)]; kernel_rfl) | (rw [if_neg (by decide +kernel)]; exact ⟨rfl, rfl⟩))
    (fun os started H enc _ => lifted os started H enc)
end Go.Proofs.Ytccgbilgfnoheaa.fnExactFinishRow
namespace Go.Proofs.Ytccgbilgfnoheaa
theorem fnExactFinish_holds : Rows.FnExactFinishSaid := fnExactFinishRow.over
end Go.Proofs.Ytccgbilgfnoheaa
