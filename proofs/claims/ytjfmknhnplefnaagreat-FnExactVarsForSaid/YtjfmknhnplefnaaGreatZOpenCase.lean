/-
  What came in, opened: cases.
-/
import Derived.Test.YtjfmknhnplefnaaGreatZOpens
import Derived.Test.YtjfmknhnplefnaaGreatZCaseMem
import Derived.ChangeArms
namespace Go.Proofs.YtjfmknhnplefnaaGreat
open Go.RowKit Go.ChangeShapes Go.WideShapes Go.Deep
set_option linter.unusedVariables false

theorem openNode {H : Type} {enc : TypeId × Value → H} {w : World} {base : Nat} {held : Bool} {fuel : Nat} {cs : List Value} {x : DataW H × List MemPlace} (hf : DataW.trod enc Tryz.prog w base (fun _ => true) held fuel 237 cs = some x) :
    ∃ y : TNode, cs = cNode y ∧ True := by
  have hN := trod_struct_len Tryz.underlying237 (by kernel_rfl : Tryz.prog.cellsOf 237 = 6) hf
  obtain ⟨u0, u1, u2, u3, u4, u5, rfl⟩ : ∃ u0 u1 u2 u3 u4 u5, cs = [u0, u1, u2, u3, u4, u5] := by
    match cs, hN with
    | [u0, u1, u2, u3, u4, u5], _ => exact ⟨u0, u1, u2, u3, u4, u5, rfl⟩
  obtain ⟨mfa_0, yfa_0, fa_0⟩ := trod_field (ft := 3) Tryz.underlying237 0 0 1 rfl (by kernel_rfl) hf
  simp only [List.drop_zero, List.take_succ_cons, List.take_zero] at fa_0
  obtain ⟨mfa_1, yfa_1, fa_1⟩ := trod_field (ft := 3) Tryz.underlying237 1 1 1 rfl (by kernel_rfl) hf
  simp only [List.drop_succ_cons, List.drop_zero, List.take_succ_cons, List.take_zero] at fa_1
  obtain ⟨mfa_2, yfa_2, fa_2⟩ := trod_field (ft := 3) Tryz.underlying237 2 2 1 rfl (by kernel_rfl) hf
  simp only [List.drop_succ_cons, List.drop_zero, List.take_succ_cons, List.take_zero] at fa_2
  obtain ⟨mfa_3, yfa_3, fa_3⟩ := trod_field (ft := 3) Tryz.underlying237 3 3 1 rfl (by kernel_rfl) hf
  simp only [List.drop_succ_cons, List.drop_zero, List.take_succ_cons, List.take_zero] at fa_3
  obtain ⟨mfa_4, yfa_4, fa_4⟩ := trod_field (ft := 235) Tryz.underlying237 4 4 2 rfl (by kernel_rfl) hf
  simp only [List.drop_succ_cons, List.drop_zero, List.take_succ_cons, List.take_zero] at fa_4
  obtain ⟨mfa4_0, yfa4_0, fa4_0⟩ := trod_field (ft := 3) Tryz.underlying235 0 0 1 rfl (by kernel_rfl) fa_4
  simp only [List.drop_zero, List.take_succ_cons, List.take_zero] at fa4_0
  obtain ⟨mfa4_1, yfa4_1, fa4_1⟩ := trod_field (ft := 3) Tryz.underlying235 1 1 1 rfl (by kernel_rfl) fa_4
  simp only [List.drop_succ_cons, List.drop_zero, List.take_succ_cons, List.take_zero] at fa4_1
  obtain ⟨z0, e0, _, w0⟩ := DataW.trod_int Tryz.underlying3 fa_0
  injection e0 with e0 _
  subst e0
  obtain ⟨z1, e1, _, w1⟩ := DataW.trod_int Tryz.underlying3 fa_1
  injection e1 with e1 _
  subst e1
  obtain ⟨z2, e2, _, w2⟩ := DataW.trod_int Tryz.underlying3 fa_2
  injection e2 with e2 _
  subst e2
  obtain ⟨z3, e3, _, w3⟩ := DataW.trod_int Tryz.underlying3 fa_3
  injection e3 with e3 _
  subst e3
  obtain ⟨z4, e4, _, w4⟩ := DataW.trod_int Tryz.underlying3 fa4_0
  injection e4 with e4 _
  subst e4
  obtain ⟨z5, e5, _, w5⟩ := DataW.trod_int Tryz.underlying3 fa4_1
  injection e5 with e5 _
  subst e5
  exact ⟨(z0, z1, z2, z3, z4, z5), rfl, trivial⟩

theorem openFact {H : Type} {enc : TypeId × Value → H} {w : World} {base : Nat} {held : Bool} {fuel : Nat} {cs : List Value} {x : DataW H × List MemPlace} (hf : DataW.trod enc Tryz.prog w base (fun _ => true) held fuel 209 cs = some x) :
    ∃ y : TFact, cs = cFact y ∧ True := by
  have hN := trod_struct_len Tryz.underlying209 (by kernel_rfl : Tryz.prog.cellsOf 209 = 5) hf
  obtain ⟨u0, u1, u2, u3, u4, rfl⟩ : ∃ u0 u1 u2 u3 u4, cs = [u0, u1, u2, u3, u4] := by
    match cs, hN with
    | [u0, u1, u2, u3, u4], _ => exact ⟨u0, u1, u2, u3, u4, rfl⟩
  obtain ⟨mfa_0, yfa_0, fa_0⟩ := trod_field (ft := 3) Tryz.underlying209 0 0 1 rfl (by kernel_rfl) hf
  simp only [List.drop_zero, List.take_succ_cons, List.take_zero] at fa_0
  obtain ⟨mfa_1, yfa_1, fa_1⟩ := trod_field (ft := 3) Tryz.underlying209 1 1 1 rfl (by kernel_rfl) hf
  simp only [List.drop_succ_cons, List.drop_zero, List.take_succ_cons, List.take_zero] at fa_1
  obtain ⟨mfa_2, yfa_2, fa_2⟩ := trod_field (ft := 3) Tryz.underlying209 2 2 1 rfl (by kernel_rfl) hf
  simp only [List.drop_succ_cons, List.drop_zero, List.take_succ_cons, List.take_zero] at fa_2
  obtain ⟨mfa_3, yfa_3, fa_3⟩ := trod_field (ft := 3) Tryz.underlying209 3 3 1 rfl (by kernel_rfl) hf
  simp only [List.drop_succ_cons, List.drop_zero, List.take_succ_cons, List.take_zero] at fa_3
  obtain ⟨mfa_4, yfa_4, fa_4⟩ := trod_field (ft := 3) Tryz.underlying209 4 4 1 rfl (by kernel_rfl) hf
  simp only [List.drop_succ_cons, List.drop_zero, List.take_succ_cons, List.take_zero] at fa_4
  obtain ⟨z0, e0, _, w0⟩ := DataW.trod_int Tryz.underlying3 fa_0
  injection e0 with e0 _
  subst e0
  obtain ⟨z1, e1, _, w1⟩ := DataW.trod_int Tryz.underlying3 fa_1
  injection e1 with e1 _
  subst e1
  obtain ⟨z2, e2, _, w2⟩ := DataW.trod_int Tryz.underlying3 fa_2
  injection e2 with e2 _
  subst e2
  obtain ⟨z3, e3, _, w3⟩ := DataW.trod_int Tryz.underlying3 fa_3
  injection e3 with e3 _
  subst e3
  obtain ⟨z4, e4, _, w4⟩ := DataW.trod_int Tryz.underlying3 fa_4
  injection e4 with e4 _
  subst e4
  exact ⟨(z0, z1, z2, z3, z4), rfl, trivial⟩

theorem openPoint {H : Type} {enc : TypeId × Value → H} {w : World} {base : Nat} {held : Bool} {fuel : Nat} {cs : List Value} {x : DataW H × List MemPlace} (hf : DataW.trod enc Tryz.prog w base (fun _ => true) held fuel 211 cs = some x) :
    ∃ y : TPoint, cs = cPoint y ∧ True := by
  have hN := trod_struct_len Tryz.underlying211 (by kernel_rfl : Tryz.prog.cellsOf 211 = 3) hf
  obtain ⟨u0, u1, u2, rfl⟩ : ∃ u0 u1 u2, cs = [u0, u1, u2] := by
    match cs, hN with
    | [u0, u1, u2], _ => exact ⟨u0, u1, u2, rfl⟩
  obtain ⟨mfa_0, yfa_0, fa_0⟩ := trod_field (ft := 3) Tryz.underlying211 0 0 1 rfl (by kernel_rfl) hf
  simp only [List.drop_zero, List.take_succ_cons, List.take_zero] at fa_0
  obtain ⟨mfa_1, yfa_1, fa_1⟩ := trod_field (ft := 3) Tryz.underlying211 1 1 1 rfl (by kernel_rfl) hf
  simp only [List.drop_succ_cons, List.drop_zero, List.take_succ_cons, List.take_zero] at fa_1
  obtain ⟨mfa_2, yfa_2, fa_2⟩ := trod_field (ft := 3) Tryz.underlying211 2 2 1 rfl (by kernel_rfl) hf
  simp only [List.drop_succ_cons, List.drop_zero, List.take_succ_cons, List.take_zero] at fa_2
  obtain ⟨z0, e0, _, w0⟩ := DataW.trod_int Tryz.underlying3 fa_0
  injection e0 with e0 _
  subst e0
  obtain ⟨z1, e1, _, w1⟩ := DataW.trod_int Tryz.underlying3 fa_1
  injection e1 with e1 _
  subst e1
  obtain ⟨z2, e2, _, w2⟩ := DataW.trod_int Tryz.underlying3 fa_2
  injection e2 with e2 _
  subst e2
  exact ⟨(z0, z1, z2), rfl, trivial⟩

theorem openSpell {H : Type} {enc : TypeId × Value → H} {w : World} {base : Nat} {held : Bool} {fuel : Nat} {cs : List Value} {x : DataW H × List MemPlace} (hf : DataW.trod enc Tryz.prog w base (fun _ => true) held fuel 213 cs = some x) :
    ∃ y : TSpell, cs = cSpell y ∧ True := by
  have hN := trod_struct_len Tryz.underlying213 (by kernel_rfl : Tryz.prog.cellsOf 213 = 4) hf
  obtain ⟨u0, u1, u2, u3, rfl⟩ : ∃ u0 u1 u2 u3, cs = [u0, u1, u2, u3] := by
    match cs, hN with
    | [u0, u1, u2, u3], _ => exact ⟨u0, u1, u2, u3, rfl⟩
  obtain ⟨mfa_0, yfa_0, fa_0⟩ := trod_field (ft := 3) Tryz.underlying213 0 0 1 rfl (by kernel_rfl) hf
  simp only [List.drop_zero, List.take_succ_cons, List.take_zero] at fa_0
  obtain ⟨mfa_1, yfa_1, fa_1⟩ := trod_field (ft := 3) Tryz.underlying213 1 1 1 rfl (by kernel_rfl) hf
  simp only [List.drop_succ_cons, List.drop_zero, List.take_succ_cons, List.take_zero] at fa_1
  obtain ⟨mfa_2, yfa_2, fa_2⟩ := trod_field (ft := 3) Tryz.underlying213 2 2 1 rfl (by kernel_rfl) hf
  simp only [List.drop_succ_cons, List.drop_zero, List.take_succ_cons, List.take_zero] at fa_2
  obtain ⟨mfa_3, yfa_3, fa_3⟩ := trod_field (ft := 4) Tryz.underlying213 3 3 1 rfl (by kernel_rfl) hf
  simp only [List.drop_succ_cons, List.drop_zero, List.take_succ_cons, List.take_zero] at fa_3
  obtain ⟨z0, e0, _, w0⟩ := DataW.trod_int Tryz.underlying3 fa_0
  injection e0 with e0 _
  subst e0
  obtain ⟨z1, e1, _, w1⟩ := DataW.trod_int Tryz.underlying3 fa_1
  injection e1 with e1 _
  subst e1
  obtain ⟨z2, e2, _, w2⟩ := DataW.trod_int Tryz.underlying3 fa_2
  injection e2 with e2 _
  subst e2
  obtain ⟨z3, e3, _⟩ := DataW.trod_bool Tryz.underlying4 fa_3
  injection e3 with e3 _
  subst e3
  exact ⟨(z0, z1, z2, z3), rfl, trivial⟩

theorem openEvent {H : Type} {enc : TypeId × Value → H} {w : World} {base : Nat} {held : Bool} {fuel : Nat} {cs : List Value} {x : DataW H × List MemPlace} (hf : DataW.trod enc Tryz.prog w base (fun _ => true) held fuel 215 cs = some x) :
    ∃ y : TEvent, cs = cEvent y ∧ True := by
  have hN := trod_struct_len Tryz.underlying215 (by kernel_rfl : Tryz.prog.cellsOf 215 = 2) hf
  obtain ⟨u0, u1, rfl⟩ : ∃ u0 u1, cs = [u0, u1] := by
    match cs, hN with
    | [u0, u1], _ => exact ⟨u0, u1, rfl⟩
  obtain ⟨mfa_0, yfa_0, fa_0⟩ := trod_field (ft := 3) Tryz.underlying215 0 0 1 rfl (by kernel_rfl) hf
  simp only [List.drop_zero, List.take_succ_cons, List.take_zero] at fa_0
  obtain ⟨mfa_1, yfa_1, fa_1⟩ := trod_field (ft := 3) Tryz.underlying215 1 1 1 rfl (by kernel_rfl) hf
  simp only [List.drop_succ_cons, List.drop_zero, List.take_succ_cons, List.take_zero] at fa_1
  obtain ⟨z0, e0, _, w0⟩ := DataW.trod_int Tryz.underlying3 fa_0
  injection e0 with e0 _
  subst e0
  obtain ⟨z1, e1, _, w1⟩ := DataW.trod_int Tryz.underlying3 fa_1
  injection e1 with e1 _
  subst e1
  exact ⟨(z0, z1), rfl, trivial⟩

theorem openRule {H : Type} {enc : TypeId × Value → H} {w : World} {base : Nat} {held : Bool} {fuel : Nat} {cs : List Value} {x : DataW H × List MemPlace} (hf : DataW.trod enc Tryz.prog w base (fun _ => true) held fuel 206 cs = some x) :
    ∃ y : MRule, cs = cRule y ∧ AtNode w y.2.1 y.1.nodes ∧ y.1.nodes.length ≤ 9223372036854775807 := by
  have hN := trod_struct_len Tryz.underlying206 (by kernel_rfl : Tryz.prog.cellsOf 206 = 7) hf
  obtain ⟨u0, u1, u2, u3, u4, u5, u6, rfl⟩ : ∃ u0 u1 u2 u3 u4 u5 u6, cs = [u0, u1, u2, u3, u4, u5, u6] := by
    match cs, hN with
    | [u0, u1, u2, u3, u4, u5, u6], _ => exact ⟨u0, u1, u2, u3, u4, u5, u6, rfl⟩
  obtain ⟨mfa_0, yfa_0, fa_0⟩ := trod_field (ft := 3) Tryz.underlying206 0 0 1 rfl (by kernel_rfl) hf
  simp only [List.drop_zero, List.take_succ_cons, List.take_zero] at fa_0
  obtain ⟨mfa_1, yfa_1, fa_1⟩ := trod_field (ft := 3) Tryz.underlying206 1 1 1 rfl (by kernel_rfl) hf
  simp only [List.drop_succ_cons, List.drop_zero, List.take_succ_cons, List.take_zero] at fa_1
  obtain ⟨mfa_2, yfa_2, fa_2⟩ := trod_field (ft := 3) Tryz.underlying206 2 2 1 rfl (by kernel_rfl) hf
  simp only [List.drop_succ_cons, List.drop_zero, List.take_succ_cons, List.take_zero] at fa_2
  obtain ⟨mfa_3, yfa_3, fa_3⟩ := trod_field (ft := 3) Tryz.underlying206 3 3 1 rfl (by kernel_rfl) hf
  simp only [List.drop_succ_cons, List.drop_zero, List.take_succ_cons, List.take_zero] at fa_3
  obtain ⟨mfa_4, yfa_4, fa_4⟩ := trod_field (ft := 3) Tryz.underlying206 4 4 1 rfl (by kernel_rfl) hf
  simp only [List.drop_succ_cons, List.drop_zero, List.take_succ_cons, List.take_zero] at fa_4
  obtain ⟨mfa_5, yfa_5, fa_5⟩ := trod_field (ft := 3) Tryz.underlying206 5 5 1 rfl (by kernel_rfl) hf
  simp only [List.drop_succ_cons, List.drop_zero, List.take_succ_cons, List.take_zero] at fa_5
  obtain ⟨mfa_6, yfa_6, fa_6⟩ := trod_field (ft := 204) Tryz.underlying206 6 6 1 rfl (by kernel_rfl) hf
  simp only [List.drop_succ_cons, List.drop_zero, List.take_succ_cons, List.take_zero] at fa_6
  obtain ⟨z0, e0, _, w0⟩ := DataW.trod_int Tryz.underlying3 fa_0
  injection e0 with e0 _
  subst e0
  obtain ⟨z1, e1, _, w1⟩ := DataW.trod_int Tryz.underlying3 fa_1
  injection e1 with e1 _
  subst e1
  obtain ⟨z2, e2, _, w2⟩ := DataW.trod_int Tryz.underlying3 fa_2
  injection e2 with e2 _
  subst e2
  obtain ⟨z3, e3, _, w3⟩ := DataW.trod_int Tryz.underlying3 fa_3
  injection e3 with e3 _
  subst e3
  obtain ⟨z4, e4, _, w4⟩ := DataW.trod_int Tryz.underlying3 fa_4
  injection e4 with e4 _
  subst e4
  obtain ⟨z5, e5, _, w5⟩ := DataW.trod_int Tryz.underlying3 fa_5
  injection e5 with e5 _
  subst e5
  obtain ⟨A6, c6, L6, e6, r6, l6, g6⟩ := open_recsG (n := 6) (cells := cNode) (Good := fun _ => True) (by decide) Tryz.underlying204 (by kernel_rfl) (fun fuel cs x h => openNode h) (fun _ => rfl) fa_6
  injection e6 with e6 _
  subst e6
  exact ⟨(⟨z0, z1, z2, z3, z4, z5, L6⟩, A6, c6), rfl, r6, l6⟩

theorem openCase {H : Type} {enc : TypeId × Value → H} {w : World} {base : Nat} {held : Bool} {fuel : Nat} {cs : List Value} {x : DataW H × List MemPlace} (hf : DataW.trod enc Tryz.prog w base (fun _ => true) held fuel 73 cs = some x) :
    ∃ (D : TCase) (m : CMem), cs = [.slice m.r D.R.length m.rc, .slice m.f D.F.length m.fc, .slice m.p D.P.length m.pc, .int .i64 D.birth, .int .i64 D.joined, .slice m.s D.S.length m.sc, .slice m.e D.E.length m.ec] ∧ CaseAt w D m ∧ D.Small 9223372036854775807 := by
  have hN := trod_struct_len Tryz.underlying73 (by kernel_rfl : Tryz.prog.cellsOf 73 = 7) hf
  obtain ⟨u0, u1, u2, u3, u4, u5, u6, rfl⟩ : ∃ u0 u1 u2 u3 u4 u5 u6, cs = [u0, u1, u2, u3, u4, u5, u6] := by
    match cs, hN with
    | [u0, u1, u2, u3, u4, u5, u6], _ => exact ⟨u0, u1, u2, u3, u4, u5, u6, rfl⟩
  obtain ⟨mfa_0, yfa_0, fa_0⟩ := trod_field (ft := 61) Tryz.underlying73 0 0 1 rfl (by kernel_rfl) hf
  simp only [List.drop_zero, List.take_succ_cons, List.take_zero] at fa_0
  obtain ⟨mfa0_0, yfa0_0, fa0_0⟩ := trod_field (ft := 59) Tryz.underlying61 0 0 1 rfl (by kernel_rfl) fa_0
  simp only [List.drop_zero, List.take_succ_cons, List.take_zero] at fa0_0
  obtain ⟨mfa_1, yfa_1, fa_1⟩ := trod_field (ft := 64) Tryz.underlying73 1 1 1 rfl (by kernel_rfl) hf
  simp only [List.drop_succ_cons, List.drop_zero, List.take_succ_cons, List.take_zero] at fa_1
  obtain ⟨mfa1_0, yfa1_0, fa1_0⟩ := trod_field (ft := 62) Tryz.underlying64 0 0 1 rfl (by kernel_rfl) fa_1
  simp only [List.drop_zero, List.take_succ_cons, List.take_zero] at fa1_0
  obtain ⟨mfa_2, yfa_2, fa_2⟩ := trod_field (ft := 67) Tryz.underlying73 2 2 1 rfl (by kernel_rfl) hf
  simp only [List.drop_succ_cons, List.drop_zero, List.take_succ_cons, List.take_zero] at fa_2
  obtain ⟨mfa2_0, yfa2_0, fa2_0⟩ := trod_field (ft := 65) Tryz.underlying67 0 0 1 rfl (by kernel_rfl) fa_2
  simp only [List.drop_zero, List.take_succ_cons, List.take_zero] at fa2_0
  obtain ⟨mfa_3, yfa_3, fa_3⟩ := trod_field (ft := 71) Tryz.underlying73 3 3 4 rfl (by kernel_rfl) hf
  simp only [List.drop_succ_cons, List.drop_zero, List.take_succ_cons, List.take_zero] at fa_3
  obtain ⟨mfa3_0, yfa3_0, fa3_0⟩ := trod_field (ft := 3) Tryz.underlying71 0 0 1 rfl (by kernel_rfl) fa_3
  simp only [List.drop_zero, List.take_succ_cons, List.take_zero] at fa3_0
  obtain ⟨mfa3_1, yfa3_1, fa3_1⟩ := trod_field (ft := 3) Tryz.underlying71 1 1 1 rfl (by kernel_rfl) fa_3
  simp only [List.drop_succ_cons, List.drop_zero, List.take_succ_cons, List.take_zero] at fa3_1
  obtain ⟨mfa3_2, yfa3_2, fa3_2⟩ := trod_field (ft := 68) Tryz.underlying71 2 2 1 rfl (by kernel_rfl) fa_3
  simp only [List.drop_succ_cons, List.drop_zero, List.take_succ_cons, List.take_zero] at fa3_2
  obtain ⟨mfa3_3, yfa3_3, fa3_3⟩ := trod_field (ft := 69) Tryz.underlying71 3 3 1 rfl (by kernel_rfl) fa_3
  simp only [List.drop_succ_cons, List.drop_zero, List.take_succ_cons, List.take_zero] at fa3_3
  obtain ⟨A0, c0, L0, e0, r0, l0, g0⟩ := open_recsG (n := 7) (cells := cRule) (Good := fun y => AtNode w y.2.1 y.1.nodes ∧ y.1.nodes.length ≤ 9223372036854775807) (by decide) Tryz.underlying59 (by kernel_rfl) (fun fuel cs x h => openRule h) (fun _ => rfl) fa0_0
  injection e0 with e0 _
  subst e0
  obtain ⟨A1, c1, L1, e1, r1, l1, g1⟩ := open_recsG (n := 5) (cells := cFact) (Good := fun _ => True) (by decide) Tryz.underlying62 (by kernel_rfl) (fun fuel cs x h => openFact h) (fun _ => rfl) fa1_0
  injection e1 with e1 _
  subst e1
  obtain ⟨A2, c2, L2, e2, r2, l2, g2⟩ := open_recsG (n := 3) (cells := cPoint) (Good := fun _ => True) (by decide) Tryz.underlying65 (by kernel_rfl) (fun fuel cs x h => openPoint h) (fun _ => rfl) fa2_0
  injection e2 with e2 _
  subst e2
  obtain ⟨z3, e3, _, w3⟩ := DataW.trod_int Tryz.underlying3 fa3_0
  injection e3 with e3 _
  subst e3
  obtain ⟨z4, e4, _, w4⟩ := DataW.trod_int Tryz.underlying3 fa3_1
  injection e4 with e4 _
  subst e4
  obtain ⟨A5, c5, L5, e5, r5, l5, g5⟩ := open_recsG (n := 4) (cells := cSpell) (Good := fun _ => True) (by decide) Tryz.underlying68 (by kernel_rfl) (fun fuel cs x h => openSpell h) (fun _ => rfl) fa3_2
  injection e5 with e5 _
  subst e5
  obtain ⟨A6, c6, L6, e6, r6, l6, g6⟩ := open_recsG (n := 2) (cells := cEvent) (Good := fun _ => True) (by decide) Tryz.underlying69 (by kernel_rfl) (fun fuel cs x h => openEvent h) (fun _ => rfl) fa3_3
  injection e6 with e6 _
  subst e6
  exact ⟨⟨L0.map Prod.fst, L1, L2, z3, z4, L5, L6⟩, ⟨A0, c0, A1, c1, A2, c2, A5, c5, A6, c6⟩, by simp, ⟨⟨L0, rfl, r0, fun x hx => (g0 x hx).1⟩, r1, r2, r5, r6⟩, ⟨by simpa using l0, fun r hr => by obtain ⟨x, hx, rfl⟩ := List.mem_map.1 hr; exact (g0 x hx).2, l1, l2, l5, l6⟩⟩
end Go.Proofs.YtjfmknhnplefnaaGreat
