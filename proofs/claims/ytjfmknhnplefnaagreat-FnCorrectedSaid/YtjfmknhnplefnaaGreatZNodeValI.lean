/-
  The value of a node (the program's side).
-/
import Derived.Test.YtjfmknhnplefnaaGreatZNodeVal
import Derived.BigRegion
import Derived.Deep.CutRange
namespace Go.Proofs.YtjfmknhnplefnaaGreat
open Go.RowKit
set_option linter.unusedVariables false
set_option linter.unusedSimpArgs false

set_option maxRecDepth 10000 in
set_option maxHeartbeats 4000000 in
theorem iNode_1 (V vars : List TFrac) (A B : Option Addr) (c e : Nat) (a1 a2 a3 : Int) (n d : Int) (w : World) :
    Calls Tryz.prog 190 #[.agg #[.int .i64 1, .int .i64 a1, .int .i64 a2, .int .i64 a3, .int .i64 n, .int .i64 d], .slice A V.length c, .slice B vars.length e] w fun en w' => en = .returned (.tuple #[.agg #[.int .i64 ((n, d, true)).1, .int .i64 ((n, d, true)).2.1], .bool ((n, d, true)).2.2]) ∧ Same w w' := by
  go_enter Tryz.func190, Tryz.ntmps190
  go_wp2
  have h2 : BoxAt ((w.alloc (.cells #[.int .i64 1, .int .i64 a1, .int .i64 a2, .int .i64 a3, .int .i64 n, .int .i64 d] 191)).alloc (.cells #[.int .i64 n, .int .i64 d] 101)) (w.heap.size + 1) 101 [.int .i64 n, .int .i64 d] := by simpa using (BoxAt.new (w.alloc (.cells #[.int .i64 1, .int .i64 a1, .int .i64 a2, .int .i64 a3, .int .i64 n, .int .i64 d] 191)) 101 [.int .i64 n, .int .i64 d])
  have hs0 := (Same.alloc (Same.alloc (Same.refl w) (.cells #[.int .i64 1, .int .i64 a1, .int .i64 a2, .int .i64 a3, .int .i64 n, .int .i64 d] 191)) (.cells #[.int .i64 n, .int .i64 d] 101))
  generalize ((w.alloc (.cells #[.int .i64 1, .int .i64 a1, .int .i64 a2, .int .i64 a3, .int .i64 n, .int .i64 d] 191)).alloc (.cells #[.int .i64 n, .int .i64 d] 101)) = w0 at *
  have z0 := h2.cell 0 rfl
  have z1 := h2.cell 1 rfl
  exact bodyPost_ret (v := .tuple #[.agg #[.int .i64 n, .int .i64 d], .bool true]) (by simp [results, Tryz.results190, go_sem, z0, z1]) rfl ⟨rfl, hs0⟩

set_option maxRecDepth 10000 in
set_option maxHeartbeats 4000000 in
theorem iNode_2 (V vars : List TFrac) (A B : Option Addr) (c e : Nat) (i : Nat) (a2 a3 : Int) (n d : Int) (w : World) (hi : i < vars.length) (hB : AtFrac w B vars) :
    Calls Tryz.prog 190 #[.agg #[.int .i64 2, .int .i64 (i : Int), .int .i64 a2, .int .i64 a3, .int .i64 n, .int .i64 d], .slice A V.length c, .slice B vars.length e] w fun en w' => en = .returned (.tuple #[.agg #[.int .i64 (yesF (fr vars (i : Int))).1, .int .i64 (yesF (fr vars (i : Int))).2.1], .bool (yesF (fr vars (i : Int))).2.2]) ∧ Same w w' := by
  obtain ⟨b, off, x, rfl, hc, HX, hbl⟩ := hB.at_ hi
  obtain ⟨f0, f1⟩ := x
  have HF := Lib.hid (show fr vars (i : Int) = (f0, f1) from fr_some HX.out)
  have d0 := hc 0 _ rfl
  have d1 := hc 1 _ rfl
  simp only [Nat.add_zero] at d0 d1
  clear hc HX hB
  go_enter Tryz.func190, Tryz.ntmps190
  go_wp2
  have h2 : BoxAt ((w.alloc (.cells #[.int .i64 2, .int .i64 (i : Int), .int .i64 a2, .int .i64 a3, .int .i64 n, .int .i64 d] 191)).alloc (.cells #[.int .i64 f0, .int .i64 f1] 101)) (w.heap.size + 1) 101 [.int .i64 f0, .int .i64 f1] := by simpa using (BoxAt.new (w.alloc (.cells #[.int .i64 2, .int .i64 (i : Int), .int .i64 a2, .int .i64 a3, .int .i64 n, .int .i64 d] 191)) 101 [.int .i64 f0, .int .i64 f1])
  have hs0 := (Same.alloc (Same.alloc (Same.refl w) (.cells #[.int .i64 2, .int .i64 (i : Int), .int .i64 a2, .int .i64 a3, .int .i64 n, .int .i64 d] 191)) (.cells #[.int .i64 f0, .int .i64 f1] 101))
  generalize ((w.alloc (.cells #[.int .i64 2, .int .i64 (i : Int), .int .i64 a2, .int .i64 a3, .int .i64 n, .int .i64 d] 191)).alloc (.cells #[.int .i64 f0, .int .i64 f1] 101)) = w0 at *
  have z0 := h2.cell 0 rfl
  have z1 := h2.cell 1 rfl
  exact bodyPost_ret (v := .tuple #[.agg #[.int .i64 f0, .int .i64 f1], .bool true]) (by simp [results, Tryz.results190, go_sem, z0, z1]) rfl ⟨by rw [HF.out]; rfl, hs0⟩

set_option maxRecDepth 10000 in
set_option maxHeartbeats 4000000 in
theorem iNode_3 (V vars : List TFrac) (A B : Option Addr) (c e : Nat) (i j : Nat) (a3 : Int) (n d : Int) (w : World) (hi : i < V.length) (hj : j < V.length) (hA : AtFrac w A V) :
    Calls Tryz.prog 190 #[.agg #[.int .i64 3, .int .i64 (i : Int), .int .i64 (j : Int), .int .i64 a3, .int .i64 n, .int .i64 d], .slice A V.length c, .slice B vars.length e] w fun en w' => en = .returned (.tuple #[.agg #[.int .i64 (fracAdd (fr V (i : Int)) (fr V (j : Int))).1, .int .i64 (fracAdd (fr V (i : Int)) (fr V (j : Int))).2.1], .bool (fracAdd (fr V (i : Int)) (fr V (j : Int))).2.2]) ∧ Same w w' := by
  obtain ⟨b, off, x, rfl, hc, HX, hbl⟩ := hA.at_ hi
  obtain ⟨b', off', y, he, hcy, HY, _⟩ := hA.at_ hj
  injection he with he
  injection he with he1 he2
  subst he1 he2
  obtain ⟨n1, d1⟩ := x
  obtain ⟨m1, e1⟩ := y
  have HFA := Lib.hid (show fr V (i : Int) = (n1, d1) from fr_some HX.out)
  have HFB := Lib.hid (show fr V (j : Int) = (m1, e1) from fr_some HY.out)
  have p0 := hc 0 _ rfl
  have p1 := hc 1 _ rfl
  have r0 := hcy 0 _ rfl
  have r1 := hcy 1 _ rfl
  simp only [Nat.add_zero] at p0 p1 r0 r1
  have hbl2 : b < w.heap.size + 1 := by omega
  have hbl3 : b < w.heap.size + 1 + 1 := by omega
  have hbl4 : b < w.heap.size + 1 + 1 + 1 := by omega
  clear hc hcy HX HY hA
  go_enter Tryz.func190, Tryz.ntmps190
  go_wp2
  have h1 : BoxAt ((w.alloc (.cells #[.int .i64 3, .int .i64 (i : Int), .int .i64 (j : Int), .int .i64 a3, .int .i64 n, .int .i64 d] 191)).alloc (.cells #[.int .i64 0, .int .i64 0] 101)) (w.heap.size) 191 [.int .i64 3, .int .i64 (i : Int), .int .i64 (j : Int), .int .i64 a3, .int .i64 n, .int .i64 d] := by simpa using (BoxAt.alloc (BoxAt.new w 191 [.int .i64 3, .int .i64 (i : Int), .int .i64 (j : Int), .int .i64 a3, .int .i64 n, .int .i64 d]) (.cells #[.int .i64 0, .int .i64 0] 101))
  have h2 : BoxAt ((w.alloc (.cells #[.int .i64 3, .int .i64 (i : Int), .int .i64 (j : Int), .int .i64 a3, .int .i64 n, .int .i64 d] 191)).alloc (.cells #[.int .i64 0, .int .i64 0] 101)) (w.heap.size + 1) 101 [.int .i64 0, .int .i64 0] := by simpa using (BoxAt.new (w.alloc (.cells #[.int .i64 3, .int .i64 (i : Int), .int .i64 (j : Int), .int .i64 a3, .int .i64 n, .int .i64 d] 191)) 101 [.int .i64 0, .int .i64 0])
  have hs0 := (Same.alloc (Same.alloc (Same.refl w) (.cells #[.int .i64 3, .int .i64 (i : Int), .int .i64 (j : Int), .int .i64 a3, .int .i64 n, .int .i64 d] 191)) (.cells #[.int .i64 0, .int .i64 0] 101))
  generalize ((w.alloc (.cells #[.int .i64 3, .int .i64 (i : Int), .int .i64 (j : Int), .int .i64 a3, .int .i64 n, .int .i64 d] 191)).alloc (.cells #[.int .i64 0, .int .i64 0] 101)) = w1 at *
  have bl1 : b < w1.heap.size := Nat.lt_of_lt_of_le hbl hs0.size
  replace p0 := (hs0.cell (p := ⟨b, off + i * 2, none⟩) hbl).trans p0
  replace p1 := (hs0.cell (p := ⟨b, off + i * 2 + 1, none⟩) hbl).trans p1
  replace r0 := (hs0.cell (p := ⟨b, off + j * 2, none⟩) hbl).trans r0
  replace r1 := (hs0.cell (p := ⟨b, off + j * 2 + 1, none⟩) hbl).trans r1
  have c1 := h1.cell 1 rfl
  have c2 := h1.cell 2 rfl
  have cL := h1.lt
  go_cut [8, 9] from 24 to 33 (fun t8 t9 wx => ∃ ga gb : Nat, t8 = .pointer (some ⟨ga, 0, none⟩) ∧ t9 = .pointer (some ⟨gb, 0, none⟩) ∧ BoxAt wx ga 101 [.int .i64 n1, .int .i64 d1] ∧ BoxAt wx gb 101 [.int .i64 m1, .int .i64 e1] ∧ Same w1 wx)
  case first =>
    go_region
    all_goals go_wp2_with fail
    all_goals go_meet
    · exact ⟨_, _, rfl, rfl, ((BoxAt.new w1 101 [.int .i64 n1, .int .i64 d1]).alloc (.cells #[.int .i64 m1, .int .i64 e1] 101)).same (Same.refl _).drew, by simpa using (BoxAt.new (w1.alloc (.cells #[.int .i64 n1, .int .i64 d1] 101)) 101 [.int .i64 m1, .int .i64 e1]).same (Same.refl _).drew, (((Same.refl w1).alloc _).alloc _).drew⟩
    · exact ⟨_, _, rfl, rfl, by simpa using (BoxAt.new (w1.alloc (.cells #[.int .i64 m1, .int .i64 e1] 101)) 101 [.int .i64 n1, .int .i64 d1]).same (Same.refl _).drew, ((BoxAt.new w1 101 [.int .i64 m1, .int .i64 e1]).alloc (.cells #[.int .i64 n1, .int .i64 d1] 101)).same (Same.refl _).drew, (((Same.refl w1).alloc _).alloc _).drew⟩
  case rest =>
  obtain ⟨ga, gb, rfl, rfl, h3, h4, hcs⟩ := hcut
  generalize wc = w5 at *
  replace h1 := h1.same hcs
  replace h2 := h2.same hcs
  have S5 := hs0.trans hcs
  clear c1 c2 cL p0 p1 r0 r1
  have y0 := h3.cell 0 rfl
  have y1 := h3.cell 1 rfl
  have yL := h3.lt
  have u0 := h4.cell 0 rfl
  have u1 := h4.cell 1 rfl
  have uL := h4.lt
  go_wp2_with fail
  refine (iFracCmp_any n1 d1 m1 e1 _).mono ?_
  rintro en w6 ⟨rfl, hs6⟩
  have T6 := hcs.trans hs6
  replace h1 := h1.same hs6
  replace h2 := h2.same hs6
  replace h3 := h3.same hs6
  replace h4 := h4.same hs6
  have S1 := S5.trans hs6
  clear y0 y1 yL u0 u1 uL S5 hcs hs6
  have y0 := h3.cell 0 rfl
  have y1 := h3.cell 1 rfl
  have yL := h3.lt
  have u0 := h4.cell 0 rfl
  have u1 := h4.cell 1 rfl
  have uL := h4.lt
  have v0 := h1.cell 0 rfl
  have v3 := h1.cell 3 rfl
  have vL := h1.lt
  go_wp2_with fail
  refine (iFracAdd_any n1 d1 m1 e1 _).mono ?_
  rintro en w2 ⟨rfl, hs2⟩
  replace h2 := h2.same hs2
  have S2 := S1.trans hs2
  have x0 := h2.cell 0 rfl
  have x1 := h2.cell 1 rfl
  have xf0 := h2.frozen 0
  have xf1 := h2.frozen 1
  have xL := h2.lt
  have HR := Lib.hid (show fracAdd (fr V (i : Int)) (fr V (j : Int)) = fracAdd (n1, d1) (m1, e1) by rw [HFA.out, HFB.out])
  go_wp2
  have h9 := (h2.set 0 (.int .i64 (fracAdd (n1, d1) (m1, e1)).1)).set 1 (.int .i64 (fracAdd (n1, d1) (m1, e1)).2.1)
  have S9 := (S2.setCell (p := ⟨(w.heap.size + 1), 0, none⟩) (show w.heap.size ≤ w.heap.size + 1 by omega) (.int .i64 (fracAdd (n1, d1) (m1, e1)).1)).setCell (p := ⟨(w.heap.size + 1), 1, none⟩) (show w.heap.size ≤ w.heap.size + 1 by omega) (.int .i64 (fracAdd (n1, d1) (m1, e1)).2.1)
  generalize (w2.setCell ⟨(w.heap.size + 1), 0, none⟩ (.int .i64 (fracAdd (n1, d1) (m1, e1)).1)).setCell ⟨(w.heap.size + 1), 1, none⟩ (.int .i64 (fracAdd (n1, d1) (m1, e1)).2.1) = w9 at *
  have z0 := h9.cell 0 rfl
  have z1 := h9.cell 1 rfl
  exact bodyPost_ret (v := .tuple #[.agg #[.int .i64 (fracAdd (n1, d1) (m1, e1)).1, .int .i64 (fracAdd (n1, d1) (m1, e1)).2.1], .bool (fracAdd (n1, d1) (m1, e1)).2.2]) (by simp [results, Tryz.results190, go_sem, z0, z1]) rfl ⟨by rw [HR.out], S9⟩

set_option maxRecDepth 10000 in
set_option maxHeartbeats 4000000 in
theorem iNode_4 (V vars : List TFrac) (A B : Option Addr) (c e : Nat) (i j : Nat) (a3 : Int) (n d : Int) (w : World) (hi : i < V.length) (hj : j < V.length) (hA : AtFrac w A V) :
    Calls Tryz.prog 190 #[.agg #[.int .i64 4, .int .i64 (i : Int), .int .i64 (j : Int), .int .i64 a3, .int .i64 n, .int .i64 d], .slice A V.length c, .slice B vars.length e] w fun en w' => en = .returned (.tuple #[.agg #[.int .i64 (fracSub (fr V (i : Int)) (fr V (j : Int))).1, .int .i64 (fracSub (fr V (i : Int)) (fr V (j : Int))).2.1], .bool (fracSub (fr V (i : Int)) (fr V (j : Int))).2.2]) ∧ Same w w' := by
  obtain ⟨b, off, x, rfl, hc, HX, hbl⟩ := hA.at_ hi
  obtain ⟨b', off', y, he, hcy, HY, _⟩ := hA.at_ hj
  injection he with he
  injection he with he1 he2
  subst he1 he2
  obtain ⟨n1, d1⟩ := x
  obtain ⟨m1, e1⟩ := y
  have HFA := Lib.hid (show fr V (i : Int) = (n1, d1) from fr_some HX.out)
  have HFB := Lib.hid (show fr V (j : Int) = (m1, e1) from fr_some HY.out)
  have p0 := hc 0 _ rfl
  have p1 := hc 1 _ rfl
  have r0 := hcy 0 _ rfl
  have r1 := hcy 1 _ rfl
  simp only [Nat.add_zero] at p0 p1 r0 r1
  have hbl2 : b < w.heap.size + 1 := by omega
  have hbl3 : b < w.heap.size + 1 + 1 := by omega
  have hbl4 : b < w.heap.size + 1 + 1 + 1 := by omega
  clear hc hcy HX HY hA
  go_enter Tryz.func190, Tryz.ntmps190
  go_wp2
  have h1 : BoxAt ((w.alloc (.cells #[.int .i64 4, .int .i64 (i : Int), .int .i64 (j : Int), .int .i64 a3, .int .i64 n, .int .i64 d] 191)).alloc (.cells #[.int .i64 0, .int .i64 0] 101)) (w.heap.size) 191 [.int .i64 4, .int .i64 (i : Int), .int .i64 (j : Int), .int .i64 a3, .int .i64 n, .int .i64 d] := by simpa using (BoxAt.alloc (BoxAt.new w 191 [.int .i64 4, .int .i64 (i : Int), .int .i64 (j : Int), .int .i64 a3, .int .i64 n, .int .i64 d]) (.cells #[.int .i64 0, .int .i64 0] 101))
  have h2 : BoxAt ((w.alloc (.cells #[.int .i64 4, .int .i64 (i : Int), .int .i64 (j : Int), .int .i64 a3, .int .i64 n, .int .i64 d] 191)).alloc (.cells #[.int .i64 0, .int .i64 0] 101)) (w.heap.size + 1) 101 [.int .i64 0, .int .i64 0] := by simpa using (BoxAt.new (w.alloc (.cells #[.int .i64 4, .int .i64 (i : Int), .int .i64 (j : Int), .int .i64 a3, .int .i64 n, .int .i64 d] 191)) 101 [.int .i64 0, .int .i64 0])
  have hs0 := (Same.alloc (Same.alloc (Same.refl w) (.cells #[.int .i64 4, .int .i64 (i : Int), .int .i64 (j : Int), .int .i64 a3, .int .i64 n, .int .i64 d] 191)) (.cells #[.int .i64 0, .int .i64 0] 101))
  generalize ((w.alloc (.cells #[.int .i64 4, .int .i64 (i : Int), .int .i64 (j : Int), .int .i64 a3, .int .i64 n, .int .i64 d] 191)).alloc (.cells #[.int .i64 0, .int .i64 0] 101)) = w1 at *
  have bl1 : b < w1.heap.size := Nat.lt_of_lt_of_le hbl hs0.size
  replace p0 := (hs0.cell (p := ⟨b, off + i * 2, none⟩) hbl).trans p0
  replace p1 := (hs0.cell (p := ⟨b, off + i * 2 + 1, none⟩) hbl).trans p1
  replace r0 := (hs0.cell (p := ⟨b, off + j * 2, none⟩) hbl).trans r0
  replace r1 := (hs0.cell (p := ⟨b, off + j * 2 + 1, none⟩) hbl).trans r1
  have c1 := h1.cell 1 rfl
  have c2 := h1.cell 2 rfl
  have cL := h1.lt
  go_cut [8, 9] from 24 to 33 (fun t8 t9 wx => ∃ ga gb : Nat, t8 = .pointer (some ⟨ga, 0, none⟩) ∧ t9 = .pointer (some ⟨gb, 0, none⟩) ∧ BoxAt wx ga 101 [.int .i64 n1, .int .i64 d1] ∧ BoxAt wx gb 101 [.int .i64 m1, .int .i64 e1] ∧ Same w1 wx)
  case first =>
    go_region
    all_goals go_wp2_with fail
    all_goals go_meet
    · exact ⟨_, _, rfl, rfl, ((BoxAt.new w1 101 [.int .i64 n1, .int .i64 d1]).alloc (.cells #[.int .i64 m1, .int .i64 e1] 101)).same (Same.refl _).drew, by simpa using (BoxAt.new (w1.alloc (.cells #[.int .i64 n1, .int .i64 d1] 101)) 101 [.int .i64 m1, .int .i64 e1]).same (Same.refl _).drew, (((Same.refl w1).alloc _).alloc _).drew⟩
    · exact ⟨_, _, rfl, rfl, by simpa using (BoxAt.new (w1.alloc (.cells #[.int .i64 m1, .int .i64 e1] 101)) 101 [.int .i64 n1, .int .i64 d1]).same (Same.refl _).drew, ((BoxAt.new w1 101 [.int .i64 m1, .int .i64 e1]).alloc (.cells #[.int .i64 n1, .int .i64 d1] 101)).same (Same.refl _).drew, (((Same.refl w1).alloc _).alloc _).drew⟩
  case rest =>
  obtain ⟨ga, gb, rfl, rfl, h3, h4, hcs⟩ := hcut
  generalize wc = w5 at *
  replace h1 := h1.same hcs
  replace h2 := h2.same hcs
  have S5 := hs0.trans hcs
  clear c1 c2 cL p0 p1 r0 r1
  have y0 := h3.cell 0 rfl
  have y1 := h3.cell 1 rfl
  have yL := h3.lt
  have u0 := h4.cell 0 rfl
  have u1 := h4.cell 1 rfl
  have uL := h4.lt
  go_wp2_with fail
  refine (iFracCmp_any n1 d1 m1 e1 _).mono ?_
  rintro en w6 ⟨rfl, hs6⟩
  have T6 := hcs.trans hs6
  replace h1 := h1.same hs6
  replace h2 := h2.same hs6
  replace h3 := h3.same hs6
  replace h4 := h4.same hs6
  have S1 := S5.trans hs6
  clear y0 y1 yL u0 u1 uL S5 hcs hs6
  have y0 := h3.cell 0 rfl
  have y1 := h3.cell 1 rfl
  have yL := h3.lt
  have u0 := h4.cell 0 rfl
  have u1 := h4.cell 1 rfl
  have uL := h4.lt
  have v0 := h1.cell 0 rfl
  have v3 := h1.cell 3 rfl
  have vL := h1.lt
  go_wp2_with fail
  refine (iFracSub_any n1 d1 m1 e1 _).mono ?_
  rintro en w2 ⟨rfl, hs2⟩
  replace h2 := h2.same hs2
  have S2 := S1.trans hs2
  have x0 := h2.cell 0 rfl
  have x1 := h2.cell 1 rfl
  have xf0 := h2.frozen 0
  have xf1 := h2.frozen 1
  have xL := h2.lt
  have HR := Lib.hid (show fracSub (fr V (i : Int)) (fr V (j : Int)) = fracSub (n1, d1) (m1, e1) by rw [HFA.out, HFB.out])
  go_wp2
  have h9 := (h2.set 0 (.int .i64 (fracSub (n1, d1) (m1, e1)).1)).set 1 (.int .i64 (fracSub (n1, d1) (m1, e1)).2.1)
  have S9 := (S2.setCell (p := ⟨(w.heap.size + 1), 0, none⟩) (show w.heap.size ≤ w.heap.size + 1 by omega) (.int .i64 (fracSub (n1, d1) (m1, e1)).1)).setCell (p := ⟨(w.heap.size + 1), 1, none⟩) (show w.heap.size ≤ w.heap.size + 1 by omega) (.int .i64 (fracSub (n1, d1) (m1, e1)).2.1)
  generalize (w2.setCell ⟨(w.heap.size + 1), 0, none⟩ (.int .i64 (fracSub (n1, d1) (m1, e1)).1)).setCell ⟨(w.heap.size + 1), 1, none⟩ (.int .i64 (fracSub (n1, d1) (m1, e1)).2.1) = w9 at *
  have z0 := h9.cell 0 rfl
  have z1 := h9.cell 1 rfl
  exact bodyPost_ret (v := .tuple #[.agg #[.int .i64 (fracSub (n1, d1) (m1, e1)).1, .int .i64 (fracSub (n1, d1) (m1, e1)).2.1], .bool (fracSub (n1, d1) (m1, e1)).2.2]) (by simp [results, Tryz.results190, go_sem, z0, z1]) rfl ⟨by rw [HR.out], S9⟩

set_option maxRecDepth 10000 in
set_option maxHeartbeats 4000000 in
theorem iNode_5 (V vars : List TFrac) (A B : Option Addr) (c e : Nat) (i j : Nat) (a3 : Int) (n d : Int) (w : World) (hi : i < V.length) (hj : j < V.length) (hA : AtFrac w A V) :
    Calls Tryz.prog 190 #[.agg #[.int .i64 5, .int .i64 (i : Int), .int .i64 (j : Int), .int .i64 a3, .int .i64 n, .int .i64 d], .slice A V.length c, .slice B vars.length e] w fun en w' => en = .returned (.tuple #[.agg #[.int .i64 (fracMul (fr V (i : Int)) (fr V (j : Int))).1, .int .i64 (fracMul (fr V (i : Int)) (fr V (j : Int))).2.1], .bool (fracMul (fr V (i : Int)) (fr V (j : Int))).2.2]) ∧ Same w w' := by
  obtain ⟨b, off, x, rfl, hc, HX, hbl⟩ := hA.at_ hi
  obtain ⟨b', off', y, he, hcy, HY, _⟩ := hA.at_ hj
  injection he with he
  injection he with he1 he2
  subst he1 he2
  obtain ⟨n1, d1⟩ := x
  obtain ⟨m1, e1⟩ := y
  have HFA := Lib.hid (show fr V (i : Int) = (n1, d1) from fr_some HX.out)
  have HFB := Lib.hid (show fr V (j : Int) = (m1, e1) from fr_some HY.out)
  have p0 := hc 0 _ rfl
  have p1 := hc 1 _ rfl
  have r0 := hcy 0 _ rfl
  have r1 := hcy 1 _ rfl
  simp only [Nat.add_zero] at p0 p1 r0 r1
  have hbl2 : b < w.heap.size + 1 := by omega
  have hbl3 : b < w.heap.size + 1 + 1 := by omega
  have hbl4 : b < w.heap.size + 1 + 1 + 1 := by omega
  clear hc hcy HX HY hA
  go_enter Tryz.func190, Tryz.ntmps190
  go_wp2
  have h1 : BoxAt ((w.alloc (.cells #[.int .i64 5, .int .i64 (i : Int), .int .i64 (j : Int), .int .i64 a3, .int .i64 n, .int .i64 d] 191)).alloc (.cells #[.int .i64 0, .int .i64 0] 101)) (w.heap.size) 191 [.int .i64 5, .int .i64 (i : Int), .int .i64 (j : Int), .int .i64 a3, .int .i64 n, .int .i64 d] := by simpa using (BoxAt.alloc (BoxAt.new w 191 [.int .i64 5, .int .i64 (i : Int), .int .i64 (j : Int), .int .i64 a3, .int .i64 n, .int .i64 d]) (.cells #[.int .i64 0, .int .i64 0] 101))
  have h2 : BoxAt ((w.alloc (.cells #[.int .i64 5, .int .i64 (i : Int), .int .i64 (j : Int), .int .i64 a3, .int .i64 n, .int .i64 d] 191)).alloc (.cells #[.int .i64 0, .int .i64 0] 101)) (w.heap.size + 1) 101 [.int .i64 0, .int .i64 0] := by simpa using (BoxAt.new (w.alloc (.cells #[.int .i64 5, .int .i64 (i : Int), .int .i64 (j : Int), .int .i64 a3, .int .i64 n, .int .i64 d] 191)) 101 [.int .i64 0, .int .i64 0])
  have hs0 := (Same.alloc (Same.alloc (Same.refl w) (.cells #[.int .i64 5, .int .i64 (i : Int), .int .i64 (j : Int), .int .i64 a3, .int .i64 n, .int .i64 d] 191)) (.cells #[.int .i64 0, .int .i64 0] 101))
  generalize ((w.alloc (.cells #[.int .i64 5, .int .i64 (i : Int), .int .i64 (j : Int), .int .i64 a3, .int .i64 n, .int .i64 d] 191)).alloc (.cells #[.int .i64 0, .int .i64 0] 101)) = w1 at *
  have bl1 : b < w1.heap.size := Nat.lt_of_lt_of_le hbl hs0.size
  replace p0 := (hs0.cell (p := ⟨b, off + i * 2, none⟩) hbl).trans p0
  replace p1 := (hs0.cell (p := ⟨b, off + i * 2 + 1, none⟩) hbl).trans p1
  replace r0 := (hs0.cell (p := ⟨b, off + j * 2, none⟩) hbl).trans r0
  replace r1 := (hs0.cell (p := ⟨b, off + j * 2 + 1, none⟩) hbl).trans r1
  have c1 := h1.cell 1 rfl
  have c2 := h1.cell 2 rfl
  have cL := h1.lt
  go_cut [8, 9] from 24 to 33 (fun t8 t9 wx => ∃ ga gb : Nat, t8 = .pointer (some ⟨ga, 0, none⟩) ∧ t9 = .pointer (some ⟨gb, 0, none⟩) ∧ BoxAt wx ga 101 [.int .i64 n1, .int .i64 d1] ∧ BoxAt wx gb 101 [.int .i64 m1, .int .i64 e1] ∧ Same w1 wx)
  case first =>
    go_region
    all_goals go_wp2_with fail
    all_goals go_meet
    · exact ⟨_, _, rfl, rfl, ((BoxAt.new w1 101 [.int .i64 n1, .int .i64 d1]).alloc (.cells #[.int .i64 m1, .int .i64 e1] 101)).same (Same.refl _).drew, by simpa using (BoxAt.new (w1.alloc (.cells #[.int .i64 n1, .int .i64 d1] 101)) 101 [.int .i64 m1, .int .i64 e1]).same (Same.refl _).drew, (((Same.refl w1).alloc _).alloc _).drew⟩
    · exact ⟨_, _, rfl, rfl, by simpa using (BoxAt.new (w1.alloc (.cells #[.int .i64 m1, .int .i64 e1] 101)) 101 [.int .i64 n1, .int .i64 d1]).same (Same.refl _).drew, ((BoxAt.new w1 101 [.int .i64 m1, .int .i64 e1]).alloc (.cells #[.int .i64 n1, .int .i64 d1] 101)).same (Same.refl _).drew, (((Same.refl w1).alloc _).alloc _).drew⟩
  case rest =>
  obtain ⟨ga, gb, rfl, rfl, h3, h4, hcs⟩ := hcut
  generalize wc = w5 at *
  replace h1 := h1.same hcs
  replace h2 := h2.same hcs
  have S5 := hs0.trans hcs
  clear c1 c2 cL p0 p1 r0 r1
  have y0 := h3.cell 0 rfl
  have y1 := h3.cell 1 rfl
  have yL := h3.lt
  have u0 := h4.cell 0 rfl
  have u1 := h4.cell 1 rfl
  have uL := h4.lt
  go_wp2_with fail
  refine (iFracCmp_any n1 d1 m1 e1 _).mono ?_
  rintro en w6 ⟨rfl, hs6⟩
  have T6 := hcs.trans hs6
  replace h1 := h1.same hs6
  replace h2 := h2.same hs6
  replace h3 := h3.same hs6
  replace h4 := h4.same hs6
  have S1 := S5.trans hs6
  clear y0 y1 yL u0 u1 uL S5 hcs hs6
  have y0 := h3.cell 0 rfl
  have y1 := h3.cell 1 rfl
  have yL := h3.lt
  have u0 := h4.cell 0 rfl
  have u1 := h4.cell 1 rfl
  have uL := h4.lt
  have v0 := h1.cell 0 rfl
  have v3 := h1.cell 3 rfl
  have vL := h1.lt
  go_wp2_with fail
  refine (iFracMul_any n1 d1 m1 e1 _).mono ?_
  rintro en w2 ⟨rfl, hs2⟩
  replace h2 := h2.same hs2
  have S2 := S1.trans hs2
  have x0 := h2.cell 0 rfl
  have x1 := h2.cell 1 rfl
  have xf0 := h2.frozen 0
  have xf1 := h2.frozen 1
  have xL := h2.lt
  have HR := Lib.hid (show fracMul (fr V (i : Int)) (fr V (j : Int)) = fracMul (n1, d1) (m1, e1) by rw [HFA.out, HFB.out])
  go_wp2
  have h9 := (h2.set 0 (.int .i64 (fracMul (n1, d1) (m1, e1)).1)).set 1 (.int .i64 (fracMul (n1, d1) (m1, e1)).2.1)
  have S9 := (S2.setCell (p := ⟨(w.heap.size + 1), 0, none⟩) (show w.heap.size ≤ w.heap.size + 1 by omega) (.int .i64 (fracMul (n1, d1) (m1, e1)).1)).setCell (p := ⟨(w.heap.size + 1), 1, none⟩) (show w.heap.size ≤ w.heap.size + 1 by omega) (.int .i64 (fracMul (n1, d1) (m1, e1)).2.1)
  generalize (w2.setCell ⟨(w.heap.size + 1), 0, none⟩ (.int .i64 (fracMul (n1, d1) (m1, e1)).1)).setCell ⟨(w.heap.size + 1), 1, none⟩ (.int .i64 (fracMul (n1, d1) (m1, e1)).2.1) = w9 at *
  have z0 := h9.cell 0 rfl
  have z1 := h9.cell 1 rfl
  exact bodyPost_ret (v := .tuple #[.agg #[.int .i64 (fracMul (n1, d1) (m1, e1)).1, .int .i64 (fracMul (n1, d1) (m1, e1)).2.1], .bool (fracMul (n1, d1) (m1, e1)).2.2]) (by simp [results, Tryz.results190, go_sem, z0, z1]) rfl ⟨by rw [HR.out], S9⟩

set_option maxRecDepth 10000 in
set_option maxHeartbeats 4000000 in
theorem iNode_6 (V vars : List TFrac) (A B : Option Addr) (c e : Nat) (i j : Nat) (a3 : Int) (n d : Int) (w : World) (hi : i < V.length) (hj : j < V.length) (hA : AtFrac w A V) :
    Calls Tryz.prog 190 #[.agg #[.int .i64 6, .int .i64 (i : Int), .int .i64 (j : Int), .int .i64 a3, .int .i64 n, .int .i64 d], .slice A V.length c, .slice B vars.length e] w fun en w' => en = .returned (.tuple #[.agg #[.int .i64 (fracDiv (fr V (i : Int)) (fr V (j : Int))).1, .int .i64 (fracDiv (fr V (i : Int)) (fr V (j : Int))).2.1], .bool (fracDiv (fr V (i : Int)) (fr V (j : Int))).2.2]) ∧ Same w w' := by
  obtain ⟨b, off, x, rfl, hc, HX, hbl⟩ := hA.at_ hi
  obtain ⟨b', off', y, he, hcy, HY, _⟩ := hA.at_ hj
  injection he with he
  injection he with he1 he2
  subst he1 he2
  obtain ⟨n1, d1⟩ := x
  obtain ⟨m1, e1⟩ := y
  have HFA := Lib.hid (show fr V (i : Int) = (n1, d1) from fr_some HX.out)
  have HFB := Lib.hid (show fr V (j : Int) = (m1, e1) from fr_some HY.out)
  have p0 := hc 0 _ rfl
  have p1 := hc 1 _ rfl
  have r0 := hcy 0 _ rfl
  have r1 := hcy 1 _ rfl
  simp only [Nat.add_zero] at p0 p1 r0 r1
  have hbl2 : b < w.heap.size + 1 := by omega
  have hbl3 : b < w.heap.size + 1 + 1 := by omega
  have hbl4 : b < w.heap.size + 1 + 1 + 1 := by omega
  clear hc hcy HX HY hA
  go_enter Tryz.func190, Tryz.ntmps190
  go_wp2
  have h1 : BoxAt ((w.alloc (.cells #[.int .i64 6, .int .i64 (i : Int), .int .i64 (j : Int), .int .i64 a3, .int .i64 n, .int .i64 d] 191)).alloc (.cells #[.int .i64 0, .int .i64 0] 101)) (w.heap.size) 191 [.int .i64 6, .int .i64 (i : Int), .int .i64 (j : Int), .int .i64 a3, .int .i64 n, .int .i64 d] := by simpa using (BoxAt.alloc (BoxAt.new w 191 [.int .i64 6, .int .i64 (i : Int), .int .i64 (j : Int), .int .i64 a3, .int .i64 n, .int .i64 d]) (.cells #[.int .i64 0, .int .i64 0] 101))
  have h2 : BoxAt ((w.alloc (.cells #[.int .i64 6, .int .i64 (i : Int), .int .i64 (j : Int), .int .i64 a3, .int .i64 n, .int .i64 d] 191)).alloc (.cells #[.int .i64 0, .int .i64 0] 101)) (w.heap.size + 1) 101 [.int .i64 0, .int .i64 0] := by simpa using (BoxAt.new (w.alloc (.cells #[.int .i64 6, .int .i64 (i : Int), .int .i64 (j : Int), .int .i64 a3, .int .i64 n, .int .i64 d] 191)) 101 [.int .i64 0, .int .i64 0])
  have hs0 := (Same.alloc (Same.alloc (Same.refl w) (.cells #[.int .i64 6, .int .i64 (i : Int), .int .i64 (j : Int), .int .i64 a3, .int .i64 n, .int .i64 d] 191)) (.cells #[.int .i64 0, .int .i64 0] 101))
  generalize ((w.alloc (.cells #[.int .i64 6, .int .i64 (i : Int), .int .i64 (j : Int), .int .i64 a3, .int .i64 n, .int .i64 d] 191)).alloc (.cells #[.int .i64 0, .int .i64 0] 101)) = w1 at *
  have bl1 : b < w1.heap.size := Nat.lt_of_lt_of_le hbl hs0.size
  replace p0 := (hs0.cell (p := ⟨b, off + i * 2, none⟩) hbl).trans p0
  replace p1 := (hs0.cell (p := ⟨b, off + i * 2 + 1, none⟩) hbl).trans p1
  replace r0 := (hs0.cell (p := ⟨b, off + j * 2, none⟩) hbl).trans r0
  replace r1 := (hs0.cell (p := ⟨b, off + j * 2 + 1, none⟩) hbl).trans r1
  have c1 := h1.cell 1 rfl
  have c2 := h1.cell 2 rfl
  have cL := h1.lt
  go_cut [8, 9] from 24 to 33 (fun t8 t9 wx => ∃ ga gb : Nat, t8 = .pointer (some ⟨ga, 0, none⟩) ∧ t9 = .pointer (some ⟨gb, 0, none⟩) ∧ BoxAt wx ga 101 [.int .i64 n1, .int .i64 d1] ∧ BoxAt wx gb 101 [.int .i64 m1, .int .i64 e1] ∧ Same w1 wx)
  case first =>
    go_region
    all_goals go_wp2_with fail
    all_goals go_meet
    · exact ⟨_, _, rfl, rfl, ((BoxAt.new w1 101 [.int .i64 n1, .int .i64 d1]).alloc (.cells #[.int .i64 m1, .int .i64 e1] 101)).same (Same.refl _).drew, by simpa using (BoxAt.new (w1.alloc (.cells #[.int .i64 n1, .int .i64 d1] 101)) 101 [.int .i64 m1, .int .i64 e1]).same (Same.refl _).drew, (((Same.refl w1).alloc _).alloc _).drew⟩
    · exact ⟨_, _, rfl, rfl, by simpa using (BoxAt.new (w1.alloc (.cells #[.int .i64 m1, .int .i64 e1] 101)) 101 [.int .i64 n1, .int .i64 d1]).same (Same.refl _).drew, ((BoxAt.new w1 101 [.int .i64 m1, .int .i64 e1]).alloc (.cells #[.int .i64 n1, .int .i64 d1] 101)).same (Same.refl _).drew, (((Same.refl w1).alloc _).alloc _).drew⟩
  case rest =>
  obtain ⟨ga, gb, rfl, rfl, h3, h4, hcs⟩ := hcut
  generalize wc = w5 at *
  replace h1 := h1.same hcs
  replace h2 := h2.same hcs
  have S5 := hs0.trans hcs
  clear c1 c2 cL p0 p1 r0 r1
  have y0 := h3.cell 0 rfl
  have y1 := h3.cell 1 rfl
  have yL := h3.lt
  have u0 := h4.cell 0 rfl
  have u1 := h4.cell 1 rfl
  have uL := h4.lt
  go_wp2_with fail
  refine (iFracCmp_any n1 d1 m1 e1 _).mono ?_
  rintro en w6 ⟨rfl, hs6⟩
  have T6 := hcs.trans hs6
  replace h1 := h1.same hs6
  replace h2 := h2.same hs6
  replace h3 := h3.same hs6
  replace h4 := h4.same hs6
  have S1 := S5.trans hs6
  clear y0 y1 yL u0 u1 uL S5 hcs hs6
  have y0 := h3.cell 0 rfl
  have y1 := h3.cell 1 rfl
  have yL := h3.lt
  have u0 := h4.cell 0 rfl
  have u1 := h4.cell 1 rfl
  have uL := h4.lt
  have v0 := h1.cell 0 rfl
  have v3 := h1.cell 3 rfl
  have vL := h1.lt
  go_wp2_with fail
  refine (iFracDiv_any n1 d1 m1 e1 _).mono ?_
  rintro en w2 ⟨rfl, hs2⟩
  replace h2 := h2.same hs2
  have S2 := S1.trans hs2
  have x0 := h2.cell 0 rfl
  have x1 := h2.cell 1 rfl
  have xf0 := h2.frozen 0
  have xf1 := h2.frozen 1
  have xL := h2.lt
  have HR := Lib.hid (show fracDiv (fr V (i : Int)) (fr V (j : Int)) = fracDiv (n1, d1) (m1, e1) by rw [HFA.out, HFB.out])
  go_wp2
  have h9 := (h2.set 0 (.int .i64 (fracDiv (n1, d1) (m1, e1)).1)).set 1 (.int .i64 (fracDiv (n1, d1) (m1, e1)).2.1)
  have S9 := (S2.setCell (p := ⟨(w.heap.size + 1), 0, none⟩) (show w.heap.size ≤ w.heap.size + 1 by omega) (.int .i64 (fracDiv (n1, d1) (m1, e1)).1)).setCell (p := ⟨(w.heap.size + 1), 1, none⟩) (show w.heap.size ≤ w.heap.size + 1 by omega) (.int .i64 (fracDiv (n1, d1) (m1, e1)).2.1)
  generalize (w2.setCell ⟨(w.heap.size + 1), 0, none⟩ (.int .i64 (fracDiv (n1, d1) (m1, e1)).1)).setCell ⟨(w.heap.size + 1), 1, none⟩ (.int .i64 (fracDiv (n1, d1) (m1, e1)).2.1) = w9 at *
  have z0 := h9.cell 0 rfl
  have z1 := h9.cell 1 rfl
  exact bodyPost_ret (v := .tuple #[.agg #[.int .i64 (fracDiv (n1, d1) (m1, e1)).1, .int .i64 (fracDiv (n1, d1) (m1, e1)).2.1], .bool (fracDiv (n1, d1) (m1, e1)).2.2]) (by simp [results, Tryz.results190, go_sem, z0, z1]) rfl ⟨by rw [HR.out], S9⟩

set_option maxRecDepth 10000 in
set_option maxHeartbeats 4000000 in
theorem iNode_7 (V vars : List TFrac) (A B : Option Addr) (c e : Nat) (i j : Nat) (a3 : Int) (r : RFrac) (n d : Int) (w : World) (hi : i < V.length) (hj : j < V.length) (hA : AtFrac w A V) (hV : fracsOk V = true) (HR0 : Hid (r = (if fracCmp (fr V (j : Int)) (fr V (i : Int)) < 0 then yesF (fr V (j : Int)) else yesF (fr V (i : Int))))) :
    Calls Tryz.prog 190 #[.agg #[.int .i64 7, .int .i64 (i : Int), .int .i64 (j : Int), .int .i64 a3, .int .i64 n, .int .i64 d], .slice A V.length c, .slice B vars.length e] w fun en w' => en = .returned (.tuple #[.agg #[.int .i64 (r).1, .int .i64 (r).2.1], .bool (r).2.2]) ∧ Same w w' := by
  obtain ⟨b, off, x, rfl, hc, HX, hbl⟩ := hA.at_ hi
  obtain ⟨b', off', y, he, hcy, HY, _⟩ := hA.at_ hj
  injection he with he
  injection he with he1 he2
  subst he1 he2
  obtain ⟨n1, d1⟩ := x
  obtain ⟨m1, e1⟩ := y
  have HFA := Lib.hid (show fr V (i : Int) = (n1, d1) from fr_some HX.out)
  have HFB := Lib.hid (show fr V (j : Int) = (m1, e1) from fr_some HY.out)
  have fa : fracOk n1 d1 = true := by have := fracsOk_at hV HX.out; exact this
  have fb : fracOk m1 e1 = true := by have := fracsOk_at hV HY.out; exact this
  have HFL := Lib.hid (fracCmp_flip (a := (n1, d1)) (b := (m1, e1)) fa fb)
  have HZ0 := Lib.hid (fracCmp_zero (a := (n1, d1)) (b := (m1, e1)) fa fb)
  clear fa fb
  have p0 := hc 0 _ rfl
  have p1 := hc 1 _ rfl
  have r0 := hcy 0 _ rfl
  have r1 := hcy 1 _ rfl
  simp only [Nat.add_zero] at p0 p1 r0 r1
  have hbl2 : b < w.heap.size + 1 := by omega
  have hbl3 : b < w.heap.size + 1 + 1 := by omega
  have hbl4 : b < w.heap.size + 1 + 1 + 1 := by omega
  clear hc hcy HX HY hA
  go_enter Tryz.func190, Tryz.ntmps190
  go_wp2
  have h1 : BoxAt ((w.alloc (.cells #[.int .i64 7, .int .i64 (i : Int), .int .i64 (j : Int), .int .i64 a3, .int .i64 n, .int .i64 d] 191)).alloc (.cells #[.int .i64 0, .int .i64 0] 101)) (w.heap.size) 191 [.int .i64 7, .int .i64 (i : Int), .int .i64 (j : Int), .int .i64 a3, .int .i64 n, .int .i64 d] := by simpa using (BoxAt.alloc (BoxAt.new w 191 [.int .i64 7, .int .i64 (i : Int), .int .i64 (j : Int), .int .i64 a3, .int .i64 n, .int .i64 d]) (.cells #[.int .i64 0, .int .i64 0] 101))
  have h2 : BoxAt ((w.alloc (.cells #[.int .i64 7, .int .i64 (i : Int), .int .i64 (j : Int), .int .i64 a3, .int .i64 n, .int .i64 d] 191)).alloc (.cells #[.int .i64 0, .int .i64 0] 101)) (w.heap.size + 1) 101 [.int .i64 0, .int .i64 0] := by simpa using (BoxAt.new (w.alloc (.cells #[.int .i64 7, .int .i64 (i : Int), .int .i64 (j : Int), .int .i64 a3, .int .i64 n, .int .i64 d] 191)) 101 [.int .i64 0, .int .i64 0])
  have hs0 := (Same.alloc (Same.alloc (Same.refl w) (.cells #[.int .i64 7, .int .i64 (i : Int), .int .i64 (j : Int), .int .i64 a3, .int .i64 n, .int .i64 d] 191)) (.cells #[.int .i64 0, .int .i64 0] 101))
  generalize ((w.alloc (.cells #[.int .i64 7, .int .i64 (i : Int), .int .i64 (j : Int), .int .i64 a3, .int .i64 n, .int .i64 d] 191)).alloc (.cells #[.int .i64 0, .int .i64 0] 101)) = w1 at *
  have bl1 : b < w1.heap.size := Nat.lt_of_lt_of_le hbl hs0.size
  replace p0 := (hs0.cell (p := ⟨b, off + i * 2, none⟩) hbl).trans p0
  replace p1 := (hs0.cell (p := ⟨b, off + i * 2 + 1, none⟩) hbl).trans p1
  replace r0 := (hs0.cell (p := ⟨b, off + j * 2, none⟩) hbl).trans r0
  replace r1 := (hs0.cell (p := ⟨b, off + j * 2 + 1, none⟩) hbl).trans r1
  have c1 := h1.cell 1 rfl
  have c2 := h1.cell 2 rfl
  have cL := h1.lt
  go_cut [8, 9] from 24 to 33 (fun t8 t9 wx => ∃ ga gb : Nat, t8 = .pointer (some ⟨ga, 0, none⟩) ∧ t9 = .pointer (some ⟨gb, 0, none⟩) ∧ BoxAt wx ga 101 [.int .i64 n1, .int .i64 d1] ∧ BoxAt wx gb 101 [.int .i64 m1, .int .i64 e1] ∧ Same w1 wx)
  case first =>
    go_region
    all_goals go_wp2_with fail
    all_goals go_meet
    · exact ⟨_, _, rfl, rfl, ((BoxAt.new w1 101 [.int .i64 n1, .int .i64 d1]).alloc (.cells #[.int .i64 m1, .int .i64 e1] 101)).same (Same.refl _).drew, by simpa using (BoxAt.new (w1.alloc (.cells #[.int .i64 n1, .int .i64 d1] 101)) 101 [.int .i64 m1, .int .i64 e1]).same (Same.refl _).drew, (((Same.refl w1).alloc _).alloc _).drew⟩
    · exact ⟨_, _, rfl, rfl, by simpa using (BoxAt.new (w1.alloc (.cells #[.int .i64 m1, .int .i64 e1] 101)) 101 [.int .i64 n1, .int .i64 d1]).same (Same.refl _).drew, ((BoxAt.new w1 101 [.int .i64 m1, .int .i64 e1]).alloc (.cells #[.int .i64 n1, .int .i64 d1] 101)).same (Same.refl _).drew, (((Same.refl w1).alloc _).alloc _).drew⟩
  case rest =>
  obtain ⟨ga, gb, rfl, rfl, h3, h4, hcs⟩ := hcut
  generalize wc = w5 at *
  replace h1 := h1.same hcs
  replace h2 := h2.same hcs
  have S5 := hs0.trans hcs
  clear c1 c2 cL p0 p1 r0 r1
  have y0 := h3.cell 0 rfl
  have y1 := h3.cell 1 rfl
  have yL := h3.lt
  have u0 := h4.cell 0 rfl
  have u1 := h4.cell 1 rfl
  have uL := h4.lt
  go_wp2_with fail
  refine (iFracCmp_any n1 d1 m1 e1 _).mono ?_
  rintro en w6 ⟨rfl, hs6⟩
  have T6 := hcs.trans hs6
  replace h1 := h1.same hs6
  replace h2 := h2.same hs6
  replace h3 := h3.same hs6
  replace h4 := h4.same hs6
  have S1 := S5.trans hs6
  clear y0 y1 yL u0 u1 uL S5 hcs hs6
  have y0 := h3.cell 0 rfl
  have y1 := h3.cell 1 rfl
  have yL := h3.lt
  have u0 := h4.cell 0 rfl
  have u1 := h4.cell 1 rfl
  have uL := h4.lt
  have v0 := h1.cell 0 rfl
  have v3 := h1.cell 3 rfl
  have vL := h1.lt
  have x0 := h2.cell 0 rfl
  have x1 := h2.cell 1 rfl
  have xf0 := h2.frozen 0
  have xf1 := h2.frozen 1
  have xL := h2.lt
  obtain ⟨q, eq⟩ : ∃ q, q = fracCmp (n1, d1) (m1, e1) := ⟨_, rfl⟩
  rw [← eq]
  by_cases hq : q ≤ 0
  · rw [eq] at hq
    have HR := Lib.hid (show r = (n1, d1, true) by
      rw [HR0.out, HFA.out, HFB.out, HFL.out, if_neg (by omega)]; rfl)
    have gq : decide (q ≤ 0) = true := by rw [eq]; exact decide_eq_true hq
    clear hq eq
    go_wp2
    have h9 := (h2.set 0 (.int .i64 n1)).set 1 (.int .i64 d1)
    have S9 := (S1.setCell (p := ⟨(w.heap.size + 1), 0, none⟩) (show w.heap.size ≤ w.heap.size + 1 by omega) (.int .i64 n1)).setCell (p := ⟨(w.heap.size + 1), 1, none⟩) (show w.heap.size ≤ w.heap.size + 1 by omega) (.int .i64 d1)
    generalize (w6.setCell ⟨(w.heap.size + 1), 0, none⟩ (.int .i64 n1)).setCell ⟨(w.heap.size + 1), 1, none⟩ (.int .i64 d1) = w9 at *
    have z0 := h9.cell 0 rfl
    have z1 := h9.cell 1 rfl
    exact bodyPost_ret (v := .tuple #[.agg #[.int .i64 n1, .int .i64 d1], .bool true]) (by simp [results, Tryz.results190, go_sem, z0, z1]) rfl ⟨by rw [HR.out], S9⟩
  · rw [eq] at hq
    have HR := Lib.hid (show r = (m1, e1, true) by
      rw [HR0.out, HFA.out, HFB.out, HFL.out, if_pos (by omega)]; rfl)
    have gq : decide (q ≤ 0) = false := by rw [eq]; exact decide_eq_false hq
    clear hq eq
    go_wp2
    have h9 := (h2.set 0 (.int .i64 m1)).set 1 (.int .i64 e1)
    have S9 := (S1.setCell (p := ⟨(w.heap.size + 1), 0, none⟩) (show w.heap.size ≤ w.heap.size + 1 by omega) (.int .i64 m1)).setCell (p := ⟨(w.heap.size + 1), 1, none⟩) (show w.heap.size ≤ w.heap.size + 1 by omega) (.int .i64 e1)
    generalize (w6.setCell ⟨(w.heap.size + 1), 0, none⟩ (.int .i64 m1)).setCell ⟨(w.heap.size + 1), 1, none⟩ (.int .i64 e1) = w9 at *
    have z0 := h9.cell 0 rfl
    have z1 := h9.cell 1 rfl
    exact bodyPost_ret (v := .tuple #[.agg #[.int .i64 m1, .int .i64 e1], .bool true]) (by simp [results, Tryz.results190, go_sem, z0, z1]) rfl ⟨by rw [HR.out], S9⟩

set_option maxRecDepth 10000 in
set_option maxHeartbeats 4000000 in
theorem iNode_8 (V vars : List TFrac) (A B : Option Addr) (c e : Nat) (i j : Nat) (a3 : Int) (r : RFrac) (n d : Int) (w : World) (hi : i < V.length) (hj : j < V.length) (hA : AtFrac w A V) (hV : fracsOk V = true) (HR0 : Hid (r = (if 0 < fracCmp (fr V (j : Int)) (fr V (i : Int)) then yesF (fr V (j : Int)) else yesF (fr V (i : Int))))) :
    Calls Tryz.prog 190 #[.agg #[.int .i64 8, .int .i64 (i : Int), .int .i64 (j : Int), .int .i64 a3, .int .i64 n, .int .i64 d], .slice A V.length c, .slice B vars.length e] w fun en w' => en = .returned (.tuple #[.agg #[.int .i64 (r).1, .int .i64 (r).2.1], .bool (r).2.2]) ∧ Same w w' := by
  obtain ⟨b, off, x, rfl, hc, HX, hbl⟩ := hA.at_ hi
  obtain ⟨b', off', y, he, hcy, HY, _⟩ := hA.at_ hj
  injection he with he
  injection he with he1 he2
  subst he1 he2
  obtain ⟨n1, d1⟩ := x
  obtain ⟨m1, e1⟩ := y
  have HFA := Lib.hid (show fr V (i : Int) = (n1, d1) from fr_some HX.out)
  have HFB := Lib.hid (show fr V (j : Int) = (m1, e1) from fr_some HY.out)
  have fa : fracOk n1 d1 = true := by have := fracsOk_at hV HX.out; exact this
  have fb : fracOk m1 e1 = true := by have := fracsOk_at hV HY.out; exact this
  have HFL := Lib.hid (fracCmp_flip (a := (n1, d1)) (b := (m1, e1)) fa fb)
  have HZ0 := Lib.hid (fracCmp_zero (a := (n1, d1)) (b := (m1, e1)) fa fb)
  clear fa fb
  have p0 := hc 0 _ rfl
  have p1 := hc 1 _ rfl
  have r0 := hcy 0 _ rfl
  have r1 := hcy 1 _ rfl
  simp only [Nat.add_zero] at p0 p1 r0 r1
  have hbl2 : b < w.heap.size + 1 := by omega
  have hbl3 : b < w.heap.size + 1 + 1 := by omega
  have hbl4 : b < w.heap.size + 1 + 1 + 1 := by omega
  clear hc hcy HX HY hA
  go_enter Tryz.func190, Tryz.ntmps190
  go_wp2
  have h1 : BoxAt ((w.alloc (.cells #[.int .i64 8, .int .i64 (i : Int), .int .i64 (j : Int), .int .i64 a3, .int .i64 n, .int .i64 d] 191)).alloc (.cells #[.int .i64 0, .int .i64 0] 101)) (w.heap.size) 191 [.int .i64 8, .int .i64 (i : Int), .int .i64 (j : Int), .int .i64 a3, .int .i64 n, .int .i64 d] := by simpa using (BoxAt.alloc (BoxAt.new w 191 [.int .i64 8, .int .i64 (i : Int), .int .i64 (j : Int), .int .i64 a3, .int .i64 n, .int .i64 d]) (.cells #[.int .i64 0, .int .i64 0] 101))
  have h2 : BoxAt ((w.alloc (.cells #[.int .i64 8, .int .i64 (i : Int), .int .i64 (j : Int), .int .i64 a3, .int .i64 n, .int .i64 d] 191)).alloc (.cells #[.int .i64 0, .int .i64 0] 101)) (w.heap.size + 1) 101 [.int .i64 0, .int .i64 0] := by simpa using (BoxAt.new (w.alloc (.cells #[.int .i64 8, .int .i64 (i : Int), .int .i64 (j : Int), .int .i64 a3, .int .i64 n, .int .i64 d] 191)) 101 [.int .i64 0, .int .i64 0])
  have hs0 := (Same.alloc (Same.alloc (Same.refl w) (.cells #[.int .i64 8, .int .i64 (i : Int), .int .i64 (j : Int), .int .i64 a3, .int .i64 n, .int .i64 d] 191)) (.cells #[.int .i64 0, .int .i64 0] 101))
  generalize ((w.alloc (.cells #[.int .i64 8, .int .i64 (i : Int), .int .i64 (j : Int), .int .i64 a3, .int .i64 n, .int .i64 d] 191)).alloc (.cells #[.int .i64 0, .int .i64 0] 101)) = w1 at *
  have bl1 : b < w1.heap.size := Nat.lt_of_lt_of_le hbl hs0.size
  replace p0 := (hs0.cell (p := ⟨b, off + i * 2, none⟩) hbl).trans p0
  replace p1 := (hs0.cell (p := ⟨b, off + i * 2 + 1, none⟩) hbl).trans p1
  replace r0 := (hs0.cell (p := ⟨b, off + j * 2, none⟩) hbl).trans r0
  replace r1 := (hs0.cell (p := ⟨b, off + j * 2 + 1, none⟩) hbl).trans r1
  have c1 := h1.cell 1 rfl
  have c2 := h1.cell 2 rfl
  have cL := h1.lt
  go_cut [8, 9] from 24 to 33 (fun t8 t9 wx => ∃ ga gb : Nat, t8 = .pointer (some ⟨ga, 0, none⟩) ∧ t9 = .pointer (some ⟨gb, 0, none⟩) ∧ BoxAt wx ga 101 [.int .i64 n1, .int .i64 d1] ∧ BoxAt wx gb 101 [.int .i64 m1, .int .i64 e1] ∧ Same w1 wx)
  case first =>
    go_region
    all_goals go_wp2_with fail
    all_goals go_meet
    · exact ⟨_, _, rfl, rfl, ((BoxAt.new w1 101 [.int .i64 n1, .int .i64 d1]).alloc (.cells #[.int .i64 m1, .int .i64 e1] 101)).same (Same.refl _).drew, by simpa using (BoxAt.new (w1.alloc (.cells #[.int .i64 n1, .int .i64 d1] 101)) 101 [.int .i64 m1, .int .i64 e1]).same (Same.refl _).drew, (((Same.refl w1).alloc _).alloc _).drew⟩
    · exact ⟨_, _, rfl, rfl, by simpa using (BoxAt.new (w1.alloc (.cells #[.int .i64 m1, .int .i64 e1] 101)) 101 [.int .i64 n1, .int .i64 d1]).same (Same.refl _).drew, ((BoxAt.new w1 101 [.int .i64 m1, .int .i64 e1]).alloc (.cells #[.int .i64 n1, .int .i64 d1] 101)).same (Same.refl _).drew, (((Same.refl w1).alloc _).alloc _).drew⟩
  case rest =>
  obtain ⟨ga, gb, rfl, rfl, h3, h4, hcs⟩ := hcut
  generalize wc = w5 at *
  replace h1 := h1.same hcs
  replace h2 := h2.same hcs
  have S5 := hs0.trans hcs
  clear c1 c2 cL p0 p1 r0 r1
  have y0 := h3.cell 0 rfl
  have y1 := h3.cell 1 rfl
  have yL := h3.lt
  have u0 := h4.cell 0 rfl
  have u1 := h4.cell 1 rfl
  have uL := h4.lt
  go_wp2_with fail
  refine (iFracCmp_any n1 d1 m1 e1 _).mono ?_
  rintro en w6 ⟨rfl, hs6⟩
  have T6 := hcs.trans hs6
  replace h1 := h1.same hs6
  replace h2 := h2.same hs6
  replace h3 := h3.same hs6
  replace h4 := h4.same hs6
  have S1 := S5.trans hs6
  clear y0 y1 yL u0 u1 uL S5 hcs hs6
  have y0 := h3.cell 0 rfl
  have y1 := h3.cell 1 rfl
  have yL := h3.lt
  have u0 := h4.cell 0 rfl
  have u1 := h4.cell 1 rfl
  have uL := h4.lt
  have v0 := h1.cell 0 rfl
  have v3 := h1.cell 3 rfl
  have vL := h1.lt
  have x0 := h2.cell 0 rfl
  have x1 := h2.cell 1 rfl
  have xf0 := h2.frozen 0
  have xf1 := h2.frozen 1
  have xL := h2.lt
  obtain ⟨q, eq⟩ : ∃ q, q = fracCmp (n1, d1) (m1, e1) := ⟨_, rfl⟩
  rw [← eq]
  by_cases hq : q ≤ 0
  · rw [eq] at hq
    have HR := Lib.hid (show r = (m1, e1, true) by
      rw [HR0.out, HFA.out, HFB.out, HFL.out]
      by_cases hz : fracCmp (n1, d1) (m1, e1) = 0
      · rw [if_neg (by omega), HZ0.out hz]; rfl
      · rw [if_pos (by omega)]; rfl)
    have gq : decide (q ≤ 0) = true := by rw [eq]; exact decide_eq_true hq
    clear hq eq
    go_wp2
    have h9 := (h2.set 0 (.int .i64 m1)).set 1 (.int .i64 e1)
    have S9 := (S1.setCell (p := ⟨(w.heap.size + 1), 0, none⟩) (show w.heap.size ≤ w.heap.size + 1 by omega) (.int .i64 m1)).setCell (p := ⟨(w.heap.size + 1), 1, none⟩) (show w.heap.size ≤ w.heap.size + 1 by omega) (.int .i64 e1)
    generalize (w6.setCell ⟨(w.heap.size + 1), 0, none⟩ (.int .i64 m1)).setCell ⟨(w.heap.size + 1), 1, none⟩ (.int .i64 e1) = w9 at *
    have z0 := h9.cell 0 rfl
    have z1 := h9.cell 1 rfl
    exact bodyPost_ret (v := .tuple #[.agg #[.int .i64 m1, .int .i64 e1], .bool true]) (by simp [results, Tryz.results190, go_sem, z0, z1]) rfl ⟨by rw [HR.out], S9⟩
  · rw [eq] at hq
    have HR := Lib.hid (show r = (n1, d1, true) by
      rw [HR0.out, HFA.out, HFB.out, HFL.out, if_neg (by omega)]; rfl)
    have gq : decide (q ≤ 0) = false := by rw [eq]; exact decide_eq_false hq
    clear hq eq
    go_wp2
    have h9 := (h2.set 0 (.int .i64 n1)).set 1 (.int .i64 d1)
    have S9 := (S1.setCell (p := ⟨(w.heap.size + 1), 0, none⟩) (show w.heap.size ≤ w.heap.size + 1 by omega) (.int .i64 n1)).setCell (p := ⟨(w.heap.size + 1), 1, none⟩) (show w.heap.size ≤ w.heap.size + 1 by omega) (.int .i64 d1)
    generalize (w6.setCell ⟨(w.heap.size + 1), 0, none⟩ (.int .i64 n1)).setCell ⟨(w.heap.size + 1), 1, none⟩ (.int .i64 d1) = w9 at *
    have z0 := h9.cell 0 rfl
    have z1 := h9.cell 1 rfl
    exact bodyPost_ret (v := .tuple #[.agg #[.int .i64 n1, .int .i64 d1], .bool true]) (by simp [results, Tryz.results190, go_sem, z0, z1]) rfl ⟨by rw [HR.out], S9⟩

set_option maxRecDepth 10000 in
set_option maxHeartbeats 4000000 in
theorem iNode_9 (V vars : List TFrac) (A B : Option Addr) (c e : Nat) (i j l : Nat) (r : RFrac) (n d : Int) (w : World) (hi : i < V.length) (hj : j < V.length) (hA : AtFrac w A V) (hl : l < V.length) (HR0 : Hid (r = (if 0 < (fr V (i : Int)).1 then yesF (fr V (j : Int)) else yesF (fr V (l : Int))))) :
    Calls Tryz.prog 190 #[.agg #[.int .i64 9, .int .i64 (i : Int), .int .i64 (j : Int), .int .i64 (l : Int), .int .i64 n, .int .i64 d], .slice A V.length c, .slice B vars.length e] w fun en w' => en = .returned (.tuple #[.agg #[.int .i64 (r).1, .int .i64 (r).2.1], .bool (r).2.2]) ∧ Same w w' := by
  obtain ⟨b, off, x, rfl, hc, HX, hbl⟩ := hA.at_ hi
  obtain ⟨b', off', y, he, hcy, HY, _⟩ := hA.at_ hj
  injection he with he
  injection he with he1 he2
  subst he1 he2
  obtain ⟨n1, d1⟩ := x
  obtain ⟨m1, e1⟩ := y
  have HFA := Lib.hid (show fr V (i : Int) = (n1, d1) from fr_some HX.out)
  have HFB := Lib.hid (show fr V (j : Int) = (m1, e1) from fr_some HY.out)
  obtain ⟨b', off', z, he, hcz, HZ, _⟩ := hA.at_ hl
  injection he with he
  injection he with he1 he2
  subst he1 he2
  obtain ⟨l1, k1⟩ := z
  have HFC := Lib.hid (show fr V (l : Int) = (l1, k1) from fr_some HZ.out)
  have w0_ := hcz 0 _ rfl
  have w1_ := hcz 1 _ rfl
  simp only [Nat.add_zero] at w0_ w1_
  clear hcz HZ
  have p0 := hc 0 _ rfl
  have p1 := hc 1 _ rfl
  have r0 := hcy 0 _ rfl
  have r1 := hcy 1 _ rfl
  simp only [Nat.add_zero] at p0 p1 r0 r1
  have hbl2 : b < w.heap.size + 1 := by omega
  have hbl3 : b < w.heap.size + 1 + 1 := by omega
  have hbl4 : b < w.heap.size + 1 + 1 + 1 := by omega
  clear hc hcy HX HY hA
  go_enter Tryz.func190, Tryz.ntmps190
  go_wp2
  have h1 : BoxAt ((w.alloc (.cells #[.int .i64 9, .int .i64 (i : Int), .int .i64 (j : Int), .int .i64 (l : Int), .int .i64 n, .int .i64 d] 191)).alloc (.cells #[.int .i64 0, .int .i64 0] 101)) (w.heap.size) 191 [.int .i64 9, .int .i64 (i : Int), .int .i64 (j : Int), .int .i64 (l : Int), .int .i64 n, .int .i64 d] := by simpa using (BoxAt.alloc (BoxAt.new w 191 [.int .i64 9, .int .i64 (i : Int), .int .i64 (j : Int), .int .i64 (l : Int), .int .i64 n, .int .i64 d]) (.cells #[.int .i64 0, .int .i64 0] 101))
  have h2 : BoxAt ((w.alloc (.cells #[.int .i64 9, .int .i64 (i : Int), .int .i64 (j : Int), .int .i64 (l : Int), .int .i64 n, .int .i64 d] 191)).alloc (.cells #[.int .i64 0, .int .i64 0] 101)) (w.heap.size + 1) 101 [.int .i64 0, .int .i64 0] := by simpa using (BoxAt.new (w.alloc (.cells #[.int .i64 9, .int .i64 (i : Int), .int .i64 (j : Int), .int .i64 (l : Int), .int .i64 n, .int .i64 d] 191)) 101 [.int .i64 0, .int .i64 0])
  have hs0 := (Same.alloc (Same.alloc (Same.refl w) (.cells #[.int .i64 9, .int .i64 (i : Int), .int .i64 (j : Int), .int .i64 (l : Int), .int .i64 n, .int .i64 d] 191)) (.cells #[.int .i64 0, .int .i64 0] 101))
  generalize ((w.alloc (.cells #[.int .i64 9, .int .i64 (i : Int), .int .i64 (j : Int), .int .i64 (l : Int), .int .i64 n, .int .i64 d] 191)).alloc (.cells #[.int .i64 0, .int .i64 0] 101)) = w1 at *
  have bl1 : b < w1.heap.size := Nat.lt_of_lt_of_le hbl hs0.size
  replace p0 := (hs0.cell (p := ⟨b, off + i * 2, none⟩) hbl).trans p0
  replace p1 := (hs0.cell (p := ⟨b, off + i * 2 + 1, none⟩) hbl).trans p1
  replace r0 := (hs0.cell (p := ⟨b, off + j * 2, none⟩) hbl).trans r0
  replace r1 := (hs0.cell (p := ⟨b, off + j * 2 + 1, none⟩) hbl).trans r1
  have c1 := h1.cell 1 rfl
  have c2 := h1.cell 2 rfl
  have cL := h1.lt
  go_cut [8, 9] from 24 to 33 (fun t8 t9 wx => ∃ ga gb : Nat, t8 = .pointer (some ⟨ga, 0, none⟩) ∧ t9 = .pointer (some ⟨gb, 0, none⟩) ∧ BoxAt wx ga 101 [.int .i64 n1, .int .i64 d1] ∧ BoxAt wx gb 101 [.int .i64 m1, .int .i64 e1] ∧ Same w1 wx)
  case first =>
    go_region
    all_goals go_wp2_with fail
    all_goals go_meet
    · exact ⟨_, _, rfl, rfl, ((BoxAt.new w1 101 [.int .i64 n1, .int .i64 d1]).alloc (.cells #[.int .i64 m1, .int .i64 e1] 101)).same (Same.refl _).drew, by simpa using (BoxAt.new (w1.alloc (.cells #[.int .i64 n1, .int .i64 d1] 101)) 101 [.int .i64 m1, .int .i64 e1]).same (Same.refl _).drew, (((Same.refl w1).alloc _).alloc _).drew⟩
    · exact ⟨_, _, rfl, rfl, by simpa using (BoxAt.new (w1.alloc (.cells #[.int .i64 m1, .int .i64 e1] 101)) 101 [.int .i64 n1, .int .i64 d1]).same (Same.refl _).drew, ((BoxAt.new w1 101 [.int .i64 m1, .int .i64 e1]).alloc (.cells #[.int .i64 n1, .int .i64 d1] 101)).same (Same.refl _).drew, (((Same.refl w1).alloc _).alloc _).drew⟩
  case rest =>
  obtain ⟨ga, gb, rfl, rfl, h3, h4, hcs⟩ := hcut
  generalize wc = w5 at *
  replace h1 := h1.same hcs
  replace h2 := h2.same hcs
  have S5 := hs0.trans hcs
  clear c1 c2 cL p0 p1 r0 r1
  have y0 := h3.cell 0 rfl
  have y1 := h3.cell 1 rfl
  have yL := h3.lt
  have u0 := h4.cell 0 rfl
  have u1 := h4.cell 1 rfl
  have uL := h4.lt
  go_wp2_with fail
  refine (iFracCmp_any n1 d1 m1 e1 _).mono ?_
  rintro en w6 ⟨rfl, hs6⟩
  have T6 := hcs.trans hs6
  replace h1 := h1.same hs6
  replace h2 := h2.same hs6
  replace h3 := h3.same hs6
  replace h4 := h4.same hs6
  have S1 := S5.trans hs6
  clear y0 y1 yL u0 u1 uL S5 hcs hs6
  have y0 := h3.cell 0 rfl
  have y1 := h3.cell 1 rfl
  have yL := h3.lt
  have u0 := h4.cell 0 rfl
  have u1 := h4.cell 1 rfl
  have uL := h4.lt
  have v0 := h1.cell 0 rfl
  have v3 := h1.cell 3 rfl
  have vL := h1.lt
  have s0 := (S1.cell (p := ⟨b, off + l * 2, none⟩) hbl).trans w0_
  have s1 := (S1.cell (p := ⟨b, off + l * 2 + 1, none⟩) hbl).trans w1_
  clear w0_ w1_
  have x0 := h2.cell 0 rfl
  have x1 := h2.cell 1 rfl
  have xf0 := h2.frozen 0
  have xf1 := h2.frozen 1
  have xL := h2.lt
  obtain ⟨q, eq⟩ : ∃ q, q = fracCmp (n1, d1) (m1, e1) := ⟨_, rfl⟩
  rw [← eq]
  clear eq
  by_cases hq : 0 < n1
  · have HR := Lib.hid (show r = (m1, e1, true) by rw [HR0.out, HFA.out, HFB.out]; exact if_pos hq)
    go_wp2
    have h9 := (h2.set 0 (.int .i64 m1)).set 1 (.int .i64 e1)
    have S9 := (S1.setCell (p := ⟨(w.heap.size + 1), 0, none⟩) (show w.heap.size ≤ w.heap.size + 1 by omega) (.int .i64 m1)).setCell (p := ⟨(w.heap.size + 1), 1, none⟩) (show w.heap.size ≤ w.heap.size + 1 by omega) (.int .i64 e1)
    generalize (w6.setCell ⟨(w.heap.size + 1), 0, none⟩ (.int .i64 m1)).setCell ⟨(w.heap.size + 1), 1, none⟩ (.int .i64 e1) = w9 at *
    have z0 := h9.cell 0 rfl
    have z1 := h9.cell 1 rfl
    exact bodyPost_ret (v := .tuple #[.agg #[.int .i64 m1, .int .i64 e1], .bool true]) (by simp [results, Tryz.results190, go_sem, z0, z1]) rfl ⟨by rw [HR.out], S9⟩
  · have HR := Lib.hid (show r = (l1, k1, true) by rw [HR0.out, HFA.out, HFC.out]; exact if_neg hq)
    go_wp2
    have h9 := (h2.set 0 (.int .i64 l1)).set 1 (.int .i64 k1)
    have S9 := (S1.setCell (p := ⟨(w.heap.size + 1), 0, none⟩) (show w.heap.size ≤ w.heap.size + 1 by omega) (.int .i64 l1)).setCell (p := ⟨(w.heap.size + 1), 1, none⟩) (show w.heap.size ≤ w.heap.size + 1 by omega) (.int .i64 k1)
    generalize (w6.setCell ⟨(w.heap.size + 1), 0, none⟩ (.int .i64 l1)).setCell ⟨(w.heap.size + 1), 1, none⟩ (.int .i64 k1) = w9 at *
    have z0 := h9.cell 0 rfl
    have z1 := h9.cell 1 rfl
    exact bodyPost_ret (v := .tuple #[.agg #[.int .i64 l1, .int .i64 k1], .bool true]) (by simp [results, Tryz.results190, go_sem, z0, z1]) rfl ⟨by rw [HR.out], S9⟩
end Go.Proofs.YtjfmknhnplefnaaGreat
