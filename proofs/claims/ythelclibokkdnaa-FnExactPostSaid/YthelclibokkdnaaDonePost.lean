/-
  FnExactPost holds: for every ledger and posting the program's Post and the reference's hand back the same, in memory of its own, and the arguments are left as they were. No condition.
-/
import Derived.Test.YthelclibokkdnaaRows
import Derived.Test.YthelclibokkdnaaLawPost
import Derived.Test.YthelclibokkdnaaOpen
import Derived.Test.YthelclibokkdnaaOpenLedger
import Derived.ProofKit
import Derived.OpenShut
import Derived.ShutString
import Derived.ChangeOld
import Derived.Below
namespace Go.Proofs.Ythelclibokkdnaa.fnExactPostRow
open Go.ChangeShapes Go.WideShapes Go.ChangeAt Go.RowKit
open Go.ChangeMaps (open_string shut_string)
set_option linter.unusedVariables false

theorem own : ownKnob Try.prog.godebug = none := by kernel_rfl
theorem laidOut : laidOutB Try.prog = true := by kernel_rfl

set_option maxRecDepth 100000 in
set_option maxHeartbeats 4000000 in
theorem lifted (os : Os) (started : os.Started) (H : Type) (enc : TypeId × Value → H) :
    ReturnsInHanded {} Try.checked os 10 .any (Rows.fnExactPostSpec.pre6 enc Try.prog Try.f10 Rows.fnExactPostRow.domain false) (Rows.fnExactPostSpec.post enc Try.prog Try.f10 false true false false) := by
  refine returnsInHanded_of_change (C := Try.checked) own started (by kernel_rfl) Try.func10
    (ChangeSpec.witness6 (enc := enc) (C := Try.checked) false ⟨#[], #[.agg #[.slice none 0 0], .agg #[.int .i64 0, .int .i64 0, .int .i64 0, .int .i64 0]], []⟩ 8 (by kernel_rfl) (by kernel_rfl) (by kernel_rfl) (by kernel_rfl)) ?_
  intro W base args ds gs before hval0 hW hcnd _
  have hval : ∀ (j : Nat) t v, Try.f10.params[j]? = some t → args[j]? = some v → Value.okWide Try.prog W .any base t v := hval0
  have hW' := hW
  obtain ⟨p, q, hA0, hV, rfl, hfz, hnd⟩ := hW
  have hA : DataW.TrodAll enc Try.prog W 0 (fun _ => true) true Try.f10.params.toList args.toList ds p := hA0
  rw [Try.params10] at hA hval
  obtain ⟨v0, vs0, d0, ds0, p0, q0, hargs, rfl, rfl, h0, r0⟩ := trodAll_cons hA
  obtain ⟨v1, vs1, d1, ds1, p1, q1, rfl, rfl, rfl, h1, r1⟩ := trodAll_cons r0
  obtain ⟨rfl, rfl, rfl⟩ := trodAll_nil r1
  obtain rfl : args = #[v0, v1] := by cases args; simp_all
  obtain ⟨rfl, rfl⟩ := trodVars_none hV
  obtain ⟨cs0, rfl, _⟩ := okWide_struct Try.underlying33 (hval 0 33 v0 rfl rfl)
  have k0 := h0
  have lt0 : ∀ x ∈ p0, x.block < W.heap.size := by obtain ⟨m, hm⟩ := k0; exact DataW.trod_lt m _ _ _ hm
  obtain ⟨A0_0, c0_0, L0_0, ecs0, b0_0⟩ : ∃ (A0_0 : Option Addr) (c0_0 : Nat) (L0_0 : List TPosting), cs0 = #[.slice A0_0 L0_0.length c0_0] ∧ (AtPosting W A0_0 L0_0 ∧ L0_0.length ≤ 9223372036854775807) := by
    obtain ⟨fuel, hf⟩ := h0
    obtain ⟨l0⟩ := cs0
    obtain ⟨A0_0, c0_0, L0_0, e, b0⟩ := openLedger hf
    exact ⟨A0_0, c0_0, L0_0, congrArg Array.mk e, b0⟩
  subst ecs0
  obtain ⟨cs1, rfl, _⟩ := okWide_struct Try.underlying23 (hval 1 23 v1 rfl rfl)
  have k1 := h1
  have lt1 : ∀ x ∈ p1, x.block < W.heap.size := by obtain ⟨m, hm⟩ := k1; exact DataW.trod_lt m _ _ _ hm
  obtain ⟨x1_0, x1_1, x1_2, x1_3, e1⟩ : ∃ x1_0 x1_1 x1_2 x1_3 : Int, cs1 = #[.int .i64 x1_0, .int .i64 x1_1, .int .i64 x1_2, .int .i64 x1_3] := by
    obtain ⟨fuel, hf⟩ := h1
    have hc := trod_ints Try.underlying23 (by kernel_rfl) (by kernel_rfl) Try.underlying3 (by kernel_rfl) hf
    exact ⟨intAt cs1.toList 0, intAt cs1.toList 1, intAt cs1.toList 2, intAt cs1.toList 3, by cases cs1; simpa [Value.cells, List.range, List.range.loop] using hc⟩
  subst e1
  clear hA0 hval0
  refine (lawPost A0_0 c0_0 L0_0 x1_0 x1_1 x1_2 x1_3 W b0_0.2 b0_0.1 ).mono fun e W' ⟨he, bel⟩ => ?_
  subst he
  exact ⟨_, rfl, _, _, _, [], _, [], hW', trodAll_mk1 (shut_bool Try.underlying4 _), (trodAll_cons_mk (Below.trod laidOut (by kernel_rfl) (of_decide_eq_true (by kernel_rfl)) k0 bel lt0) (trodAll_cons_mk (Below.trod laidOut (by kernel_rfl) (of_decide_eq_true (by kernel_rfl)) k1 bel lt1) trodAll_mk0)), rfl, Below.frame bel _, fun h => by cases h⟩

theorem over : Rows.fnExactPostRow.holds Try.pinned (OpenSpec.ofChange Rows.fnExactPostSpec) :=
  OpenClaim.holds_of_wide 10 Try.f10 rfl rfl rfl rfl rfl rfl rfl ⟨rfl, rfl, rfl, rfl, rfl⟩ rfl rfl rfl rfl rfl (by kernel_rfl) Try.func10 (by kernel_rfl)
    (of_decide_eq_true (by kernel_rfl)) (by unfold Func.isWrapper; first | (rw [if_pos (by decide +kernel)]; kernel_rfl) | (rw [if_neg (by decide +kernel)]; exact ⟨rfl, rfl⟩))
    (fun os started H enc _ => lifted os started H enc)
end Go.Proofs.Ythelclibokkdnaa.fnExactPostRow
namespace Go.Proofs.Ythelclibokkdnaa
theorem fnExactPost_holds : Rows.FnExactPostSaid := fnExactPostRow.over
end Go.Proofs.Ythelclibokkdnaa
