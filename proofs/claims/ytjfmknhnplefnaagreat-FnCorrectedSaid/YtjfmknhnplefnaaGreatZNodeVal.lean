/-
  The value of a node (the specification's side).
-/
import Derived.Test.YtjfmknhnplefnaaGreatZFracI
import Derived.Test.YtjfmknhnplefnaaGreatZNodeOk
namespace Go.Proofs.YtjfmknhnplefnaaGreat
open Go.RowKit
set_option linter.unusedVariables false
set_option linter.unusedSimpArgs false

def cFrac (x : TFrac) : List Value := [.int .i64 x.1, .int .i64 x.2]
theorem cFrac_len (x : TFrac) : (cFrac x).length = 2 := rfl
theorem cFrac_one (x : TFrac) : ∀ u ∈ cFrac x, u.oneCell' = true := by
  intro u hu
  simp only [cFrac, List.mem_cons, List.not_mem_nil, or_false] at hu
  rcases hu with rfl | rfl <;> rfl
theorem Tryz.infoFrac : (Tryz.prog.info? 101).map (fun i => (i.zero, i.size, i.bytes)) = some (some (.agg #[.int .i64 0, .int .i64 0]), 2, 16) := by kernel_rfl
abbrev OwnFrac (w : World) (base : Nat) (v : Value) (L : List TFrac) : Prop := OwnR 101 2 cFrac w base v L
abbrev AtFrac (w : World) (A : Option Addr) (L : List TFrac) : Prop := RecAt 2 cFrac w A L

set_option maxRecDepth 10000 in
set_option maxHeartbeats 4000000 in
theorem sNode_1 (V vars : List TFrac) (A B : Option Addr) (c e : Nat) (a1 a2 a3 : Int) (n d : Int) (w : World) :
    Calls Tryz.prog 170 #[.agg #[.int .i64 1, .int .i64 a1, .int .i64 a2, .int .i64 a3, .int .i64 n, .int .i64 d], .slice A V.length c, .slice B vars.length e] w fun en w' => en = .returned (.tuple #[.agg #[.int .i64 ((n, d, true)).1, .int .i64 ((n, d, true)).2.1], .bool ((n, d, true)).2.2]) ∧ Same w w' := by
  go_enter Tryz.func170, Tryz.ntmps170
  go_wp2
  have h2 : BoxAt ((w.alloc (.cells #[.int .i64 1, .int .i64 a1, .int .i64 a2, .int .i64 a3, .int .i64 n, .int .i64 d] 191)).alloc (.cells #[.int .i64 n, .int .i64 d] 101)) (w.heap.size + 1) 101 [.int .i64 n, .int .i64 d] := by simpa using (BoxAt.new (w.alloc (.cells #[.int .i64 1, .int .i64 a1, .int .i64 a2, .int .i64 a3, .int .i64 n, .int .i64 d] 191)) 101 [.int .i64 n, .int .i64 d])
  have hs0 := (Same.alloc (Same.alloc (Same.refl w) (.cells #[.int .i64 1, .int .i64 a1, .int .i64 a2, .int .i64 a3, .int .i64 n, .int .i64 d] 191)) (.cells #[.int .i64 n, .int .i64 d] 101))
  generalize ((w.alloc (.cells #[.int .i64 1, .int .i64 a1, .int .i64 a2, .int .i64 a3, .int .i64 n, .int .i64 d] 191)).alloc (.cells #[.int .i64 n, .int .i64 d] 101)) = w0 at *
  have z0 := h2.cell 0 rfl
  have z1 := h2.cell 1 rfl
  exact bodyPost_ret (v := .tuple #[.agg #[.int .i64 n, .int .i64 d], .bool true]) (by simp [results, Tryz.results170, go_sem, z0, z1]) rfl ⟨rfl, hs0⟩

set_option maxRecDepth 10000 in
set_option maxHeartbeats 4000000 in
theorem sNode_2 (V vars : List TFrac) (A B : Option Addr) (c e : Nat) (i : Nat) (a2 a3 : Int) (n d : Int) (w : World) (hi : i < vars.length) (hB : AtFrac w B vars) :
    Calls Tryz.prog 170 #[.agg #[.int .i64 2, .int .i64 (i : Int), .int .i64 a2, .int .i64 a3, .int .i64 n, .int .i64 d], .slice A V.length c, .slice B vars.length e] w fun en w' => en = .returned (.tuple #[.agg #[.int .i64 (yesF (fr vars (i : Int))).1, .int .i64 (yesF (fr vars (i : Int))).2.1], .bool (yesF (fr vars (i : Int))).2.2]) ∧ Same w w' := by
  obtain ⟨b, off, x, rfl, hc, HX, hbl⟩ := hB.at_ hi
  obtain ⟨f0, f1⟩ := x
  have HF := Lib.hid (show fr vars (i : Int) = (f0, f1) from fr_some HX.out)
  have d0 := hc 0 _ rfl
  have d1 := hc 1 _ rfl
  simp only [Nat.add_zero] at d0 d1
  clear hc HX hB
  go_enter Tryz.func170, Tryz.ntmps170
  go_wp2
  have h2 : BoxAt ((w.alloc (.cells #[.int .i64 2, .int .i64 (i : Int), .int .i64 a2, .int .i64 a3, .int .i64 n, .int .i64 d] 191)).alloc (.cells #[.int .i64 f0, .int .i64 f1] 101)) (w.heap.size + 1) 101 [.int .i64 f0, .int .i64 f1] := by simpa using (BoxAt.new (w.alloc (.cells #[.int .i64 2, .int .i64 (i : Int), .int .i64 a2, .int .i64 a3, .int .i64 n, .int .i64 d] 191)) 101 [.int .i64 f0, .int .i64 f1])
  have hs0 := (Same.alloc (Same.alloc (Same.refl w) (.cells #[.int .i64 2, .int .i64 (i : Int), .int .i64 a2, .int .i64 a3, .int .i64 n, .int .i64 d] 191)) (.cells #[.int .i64 f0, .int .i64 f1] 101))
  generalize ((w.alloc (.cells #[.int .i64 2, .int .i64 (i : Int), .int .i64 a2, .int .i64 a3, .int .i64 n, .int .i64 d] 191)).alloc (.cells #[.int .i64 f0, .int .i64 f1] 101)) = w0 at *
  have z0 := h2.cell 0 rfl
  have z1 := h2.cell 1 rfl
  exact bodyPost_ret (v := .tuple #[.agg #[.int .i64 f0, .int .i64 f1], .bool true]) (by simp [results, Tryz.results170, go_sem, z0, z1]) rfl ⟨by rw [HF.out]; rfl, hs0⟩

set_option maxRecDepth 10000 in
set_option maxHeartbeats 4000000 in
theorem sNode_3 (V vars : List TFrac) (A B : Option Addr) (c e : Nat) (i j : Nat) (a3 : Int) (n d : Int) (w : World) (hi : i < V.length) (hj : j < V.length) (hA : AtFrac w A V) :
    Calls Tryz.prog 170 #[.agg #[.int .i64 3, .int .i64 (i : Int), .int .i64 (j : Int), .int .i64 a3, .int .i64 n, .int .i64 d], .slice A V.length c, .slice B vars.length e] w fun en w' => en = .returned (.tuple #[.agg #[.int .i64 (fracAdd (fr V (i : Int)) (fr V (j : Int))).1, .int .i64 (fracAdd (fr V (i : Int)) (fr V (j : Int))).2.1], .bool (fracAdd (fr V (i : Int)) (fr V (j : Int))).2.2]) ∧ Same w w' := by
  obtain ⟨b, off, x, rfl, hc, HX, hbl⟩ := hA.at_ hi
  obtain ⟨b', off', y, he, hcy, HY, _⟩ := hA.at_ hj
  injection he with he
  injection he with he1 he2
  subst he1 he2
  obtain ⟨n1, d1⟩ := x
  obtain ⟨m1, e1⟩ := y
  have HFA := Lib.hid (show fr V (i : Int) = (n1, d1) from fr_some HX.out)
  have HFB := Lib.hid (show fr V (j : Int) = (m1, e1) from fr_some HY.out)
  have p0 := hc 0 _ rfl
  have p1 := hc 1 _ rfl
  have r0 := hcy 0 _ rfl
  have r1 := hcy 1 _ rfl
  simp only [Nat.add_zero] at p0 p1 r0 r1
  have hbl2 : b < w.heap.size + 1 := by omega
  have hbl3 : b < w.heap.size + 1 + 1 := by omega
  have hbl4 : b < w.heap.size + 1 + 1 + 1 := by omega
  clear hc hcy HX HY hA
  go_enter Tryz.func170, Tryz.ntmps170
  go_wp2_with fail
  have h1 : BoxAt ((((w.alloc (.cells #[.int .i64 3, .int .i64 (i : Int), .int .i64 (j : Int), .int .i64 a3, .int .i64 n, .int .i64 d] 191)).alloc (.cells #[.int .i64 0, .int .i64 0] 101)).alloc (.cells #[.int .i64 n1, .int .i64 d1] 101)).alloc (.cells #[.int .i64 m1, .int .i64 e1] 101)) (w.heap.size) 191 [.int .i64 3, .int .i64 (i : Int), .int .i64 (j : Int), .int .i64 a3, .int .i64 n, .int .i64 d] := by simpa using (BoxAt.alloc (BoxAt.alloc (BoxAt.alloc (BoxAt.new w 191 [.int .i64 3, .int .i64 (i : Int), .int .i64 (j : Int), .int .i64 a3, .int .i64 n, .int .i64 d]) (.cells #[.int .i64 0, .int .i64 0] 101)) (.cells #[.int .i64 n1, .int .i64 d1] 101)) (.cells #[.int .i64 m1, .int .i64 e1] 101))
  have h2 : BoxAt ((((w.alloc (.cells #[.int .i64 3, .int .i64 (i : Int), .int .i64 (j : Int), .int .i64 a3, .int .i64 n, .int .i64 d] 191)).alloc (.cells #[.int .i64 0, .int .i64 0] 101)).alloc (.cells #[.int .i64 n1, .int .i64 d1] 101)).alloc (.cells #[.int .i64 m1, .int .i64 e1] 101)) (w.heap.size + 1) 101 [.int .i64 0, .int .i64 0] := by simpa using (BoxAt.alloc (BoxAt.alloc (BoxAt.new (w.alloc (.cells #[.int .i64 3, .int .i64 (i : Int), .int .i64 (j : Int), .int .i64 a3, .int .i64 n, .int .i64 d] 191)) 101 [.int .i64 0, .int .i64 0]) (.cells #[.int .i64 n1, .int .i64 d1] 101)) (.cells #[.int .i64 m1, .int .i64 e1] 101))
  have h3 : BoxAt ((((w.alloc (.cells #[.int .i64 3, .int .i64 (i : Int), .int .i64 (j : Int), .int .i64 a3, .int .i64 n, .int .i64 d] 191)).alloc (.cells #[.int .i64 0, .int .i64 0] 101)).alloc (.cells #[.int .i64 n1, .int .i64 d1] 101)).alloc (.cells #[.int .i64 m1, .int .i64 e1] 101)) (w.heap.size + 1 + 1) 101 [.int .i64 n1, .int .i64 d1] := by simpa using (BoxAt.alloc (BoxAt.new ((w.alloc (.cells #[.int .i64 3, .int .i64 (i : Int), .int .i64 (j : Int), .int .i64 a3, .int .i64 n, .int .i64 d] 191)).alloc (.cells #[.int .i64 0, .int .i64 0] 101)) 101 [.int .i64 n1, .int .i64 d1]) (.cells #[.int .i64 m1, .int .i64 e1] 101))
  have h4 : BoxAt ((((w.alloc (.cells #[.int .i64 3, .int .i64 (i : Int), .int .i64 (j : Int), .int .i64 a3, .int .i64 n, .int .i64 d] 191)).alloc (.cells #[.int .i64 0, .int .i64 0] 101)).alloc (.cells #[.int .i64 n1, .int .i64 d1] 101)).alloc (.cells #[.int .i64 m1, .int .i64 e1] 101)) (w.heap.size + 1 + 1 + 1) 101 [.int .i64 m1, .int .i64 e1] := by simpa using (BoxAt.new (((w.alloc (.cells #[.int .i64 3, .int .i64 (i : Int), .int .i64 (j : Int), .int .i64 a3, .int .i64 n, .int .i64 d] 191)).alloc (.cells #[.int .i64 0, .int .i64 0] 101)).alloc (.cells #[.int .i64 n1, .int .i64 d1] 101)) 101 [.int .i64 m1, .int .i64 e1])
  have hs0 := (Same.alloc (Same.alloc (Same.alloc (Same.alloc (Same.refl w) (.cells #[.int .i64 3, .int .i64 (i : Int), .int .i64 (j : Int), .int .i64 a3, .int .i64 n, .int .i64 d] 191)) (.cells #[.int .i64 0, .int .i64 0] 101)) (.cells #[.int .i64 n1, .int .i64 d1] 101)) (.cells #[.int .i64 m1, .int .i64 e1] 101))
  generalize ((((w.alloc (.cells #[.int .i64 3, .int .i64 (i : Int), .int .i64 (j : Int), .int .i64 a3, .int .i64 n, .int .i64 d] 191)).alloc (.cells #[.int .i64 0, .int .i64 0] 101)).alloc (.cells #[.int .i64 n1, .int .i64 d1] 101)).alloc (.cells #[.int .i64 m1, .int .i64 e1] 101)) = w1 at *
  have S1 := hs0
  refine (sFracAdd_any n1 d1 m1 e1 _).mono ?_
  rintro en w2 ⟨rfl, hs2⟩
  replace h2 := h2.same hs2
  have S2 := S1.trans hs2
  have x0 := h2.cell 0 rfl
  have x1 := h2.cell 1 rfl
  have xf0 := h2.frozen 0
  have xf1 := h2.frozen 1
  have xL := h2.lt
  have HR := Lib.hid (show fracAdd (fr V (i : Int)) (fr V (j : Int)) = fracAdd (n1, d1) (m1, e1) by rw [HFA.out, HFB.out])
  go_wp2
  have h9 := (h2.set 0 (.int .i64 (fracAdd (n1, d1) (m1, e1)).1)).set 1 (.int .i64 (fracAdd (n1, d1) (m1, e1)).2.1)
  have S9 := (S2.setCell (p := ⟨(w.heap.size + 1), 0, none⟩) (show w.heap.size ≤ w.heap.size + 1 by omega) (.int .i64 (fracAdd (n1, d1) (m1, e1)).1)).setCell (p := ⟨(w.heap.size + 1), 1, none⟩) (show w.heap.size ≤ w.heap.size + 1 by omega) (.int .i64 (fracAdd (n1, d1) (m1, e1)).2.1)
  generalize (w2.setCell ⟨(w.heap.size + 1), 0, none⟩ (.int .i64 (fracAdd (n1, d1) (m1, e1)).1)).setCell ⟨(w.heap.size + 1), 1, none⟩ (.int .i64 (fracAdd (n1, d1) (m1, e1)).2.1) = w9 at *
  have z0 := h9.cell 0 rfl
  have z1 := h9.cell 1 rfl
  exact bodyPost_ret (v := .tuple #[.agg #[.int .i64 (fracAdd (n1, d1) (m1, e1)).1, .int .i64 (fracAdd (n1, d1) (m1, e1)).2.1], .bool (fracAdd (n1, d1) (m1, e1)).2.2]) (by simp [results, Tryz.results170, go_sem, z0, z1]) rfl ⟨by rw [HR.out], S9⟩

set_option maxRecDepth 10000 in
set_option maxHeartbeats 4000000 in
theorem sNode_4 (V vars : List TFrac) (A B : Option Addr) (c e : Nat) (i j : Nat) (a3 : Int) (n d : Int) (w : World) (hi : i < V.length) (hj : j < V.length) (hA : AtFrac w A V) :
    Calls Tryz.prog 170 #[.agg #[.int .i64 4, .int .i64 (i : Int), .int .i64 (j : Int), .int .i64 a3, .int .i64 n, .int .i64 d], .slice A V.length c, .slice B vars.length e] w fun en w' => en = .returned (.tuple #[.agg #[.int .i64 (fracSub (fr V (i : Int)) (fr V (j : Int))).1, .int .i64 (fracSub (fr V (i : Int)) (fr V (j : Int))).2.1], .bool (fracSub (fr V (i : Int)) (fr V (j : Int))).2.2]) ∧ Same w w' := by
  obtain ⟨b, off, x, rfl, hc, HX, hbl⟩ := hA.at_ hi
  obtain ⟨b', off', y, he, hcy, HY, _⟩ := hA.at_ hj
  injection he with he
  injection he with he1 he2
  subst he1 he2
  obtain ⟨n1, d1⟩ := x
  obtain ⟨m1, e1⟩ := y
  have HFA := Lib.hid (show fr V (i : Int) = (n1, d1) from fr_some HX.out)
  have HFB := Lib.hid (show fr V (j : Int) = (m1, e1) from fr_some HY.out)
  have p0 := hc 0 _ rfl
  have p1 := hc 1 _ rfl
  have r0 := hcy 0 _ rfl
  have r1 := hcy 1 _ rfl
  simp only [Nat.add_zero] at p0 p1 r0 r1
  have hbl2 : b < w.heap.size + 1 := by omega
  have hbl3 : b < w.heap.size + 1 + 1 := by omega
  have hbl4 : b < w.heap.size + 1 + 1 + 1 := by omega
  clear hc hcy HX HY hA
  go_enter Tryz.func170, Tryz.ntmps170
  go_wp2_with fail
  have h1 : BoxAt ((((w.alloc (.cells #[.int .i64 4, .int .i64 (i : Int), .int .i64 (j : Int), .int .i64 a3, .int .i64 n, .int .i64 d] 191)).alloc (.cells #[.int .i64 0, .int .i64 0] 101)).alloc (.cells #[.int .i64 n1, .int .i64 d1] 101)).alloc (.cells #[.int .i64 m1, .int .i64 e1] 101)) (w.heap.size) 191 [.int .i64 4, .int .i64 (i : Int), .int .i64 (j : Int), .int .i64 a3, .int .i64 n, .int .i64 d] := by simpa using (BoxAt.alloc (BoxAt.alloc (BoxAt.alloc (BoxAt.new w 191 [.int .i64 4, .int .i64 (i : Int), .int .i64 (j : Int), .int .i64 a3, .int .i64 n, .int .i64 d]) (.cells #[.int .i64 0, .int .i64 0] 101)) (.cells #[.int .i64 n1, .int .i64 d1] 101)) (.cells #[.int .i64 m1, .int .i64 e1] 101))
  have h2 : BoxAt ((((w.alloc (.cells #[.int .i64 4, .int .i64 (i : Int), .int .i64 (j : Int), .int .i64 a3, .int .i64 n, .int .i64 d] 191)).alloc (.cells #[.int .i64 0, .int .i64 0] 101)).alloc (.cells #[.int .i64 n1, .int .i64 d1] 101)).alloc (.cells #[.int .i64 m1, .int .i64 e1] 101)) (w.heap.size + 1) 101 [.int .i64 0, .int .i64 0] := by simpa using (BoxAt.alloc (BoxAt.alloc (BoxAt.new (w.alloc (.cells #[.int .i64 4, .int .i64 (i : Int), .int .i64 (j : Int), .int .i64 a3, .int .i64 n, .int .i64 d] 191)) 101 [.int .i64 0, .int .i64 0]) (.cells #[.int .i64 n1, .int .i64 d1] 101)) (.cells #[.int .i64 m1, .int .i64 e1] 101))
  have h3 : BoxAt ((((w.alloc (.cells #[.int .i64 4, .int .i64 (i : Int), .int .i64 (j : Int), .int .i64 a3, .int .i64 n, .int .i64 d] 191)).alloc (.cells #[.int .i64 0, .int .i64 0] 101)).alloc (.cells #[.int .i64 n1, .int .i64 d1] 101)).alloc (.cells #[.int .i64 m1, .int .i64 e1] 101)) (w.heap.size + 1 + 1) 101 [.int .i64 n1, .int .i64 d1] := by simpa using (BoxAt.alloc (BoxAt.new ((w.alloc (.cells #[.int .i64 4, .int .i64 (i : Int), .int .i64 (j : Int), .int .i64 a3, .int .i64 n, .int .i64 d] 191)).alloc (.cells #[.int .i64 0, .int .i64 0] 101)) 101 [.int .i64 n1, .int .i64 d1]) (.cells #[.int .i64 m1, .int .i64 e1] 101))
  have h4 : BoxAt ((((w.alloc (.cells #[.int .i64 4, .int .i64 (i : Int), .int .i64 (j : Int), .int .i64 a3, .int .i64 n, .int .i64 d] 191)).alloc (.cells #[.int .i64 0, .int .i64 0] 101)).alloc (.cells #[.int .i64 n1, .int .i64 d1] 101)).alloc (.cells #[.int .i64 m1, .int .i64 e1] 101)) (w.heap.size + 1 + 1 + 1) 101 [.int .i64 m1, .int .i64 e1] := by simpa using (BoxAt.new (((w.alloc (.cells #[.int .i64 4, .int .i64 (i : Int), .int .i64 (j : Int), .int .i64 a3, .int .i64 n, .int .i64 d] 191)).alloc (.cells #[.int .i64 0, .int .i64 0] 101)).alloc (.cells #[.int .i64 n1, .int .i64 d1] 101)) 101 [.int .i64 m1, .int .i64 e1])
  have hs0 := (Same.alloc (Same.alloc (Same.alloc (Same.alloc (Same.refl w) (.cells #[.int .i64 4, .int .i64 (i : Int), .int .i64 (j : Int), .int .i64 a3, .int .i64 n, .int .i64 d] 191)) (.cells #[.int .i64 0, .int .i64 0] 101)) (.cells #[.int .i64 n1, .int .i64 d1] 101)) (.cells #[.int .i64 m1, .int .i64 e1] 101))
  generalize ((((w.alloc (.cells #[.int .i64 4, .int .i64 (i : Int), .int .i64 (j : Int), .int .i64 a3, .int .i64 n, .int .i64 d] 191)).alloc (.cells #[.int .i64 0, .int .i64 0] 101)).alloc (.cells #[.int .i64 n1, .int .i64 d1] 101)).alloc (.cells #[.int .i64 m1, .int .i64 e1] 101)) = w1 at *
  have S1 := hs0
  refine (sFracSub_any n1 d1 m1 e1 _).mono ?_
  rintro en w2 ⟨rfl, hs2⟩
  replace h2 := h2.same hs2
  have S2 := S1.trans hs2
  have x0 := h2.cell 0 rfl
  have x1 := h2.cell 1 rfl
  have xf0 := h2.frozen 0
  have xf1 := h2.frozen 1
  have xL := h2.lt
  have HR := Lib.hid (show fracSub (fr V (i : Int)) (fr V (j : Int)) = fracSub (n1, d1) (m1, e1) by rw [HFA.out, HFB.out])
  go_wp2
  have h9 := (h2.set 0 (.int .i64 (fracSub (n1, d1) (m1, e1)).1)).set 1 (.int .i64 (fracSub (n1, d1) (m1, e1)).2.1)
  have S9 := (S2.setCell (p := ⟨(w.heap.size + 1), 0, none⟩) (show w.heap.size ≤ w.heap.size + 1 by omega) (.int .i64 (fracSub (n1, d1) (m1, e1)).1)).setCell (p := ⟨(w.heap.size + 1), 1, none⟩) (show w.heap.size ≤ w.heap.size + 1 by omega) (.int .i64 (fracSub (n1, d1) (m1, e1)).2.1)
  generalize (w2.setCell ⟨(w.heap.size + 1), 0, none⟩ (.int .i64 (fracSub (n1, d1) (m1, e1)).1)).setCell ⟨(w.heap.size + 1), 1, none⟩ (.int .i64 (fracSub (n1, d1) (m1, e1)).2.1) = w9 at *
  have z0 := h9.cell 0 rfl
  have z1 := h9.cell 1 rfl
  exact bodyPost_ret (v := .tuple #[.agg #[.int .i64 (fracSub (n1, d1) (m1, e1)).1, .int .i64 (fracSub (n1, d1) (m1, e1)).2.1], .bool (fracSub (n1, d1) (m1, e1)).2.2]) (by simp [results, Tryz.results170, go_sem, z0, z1]) rfl ⟨by rw [HR.out], S9⟩

set_option maxRecDepth 10000 in
set_option maxHeartbeats 4000000 in
theorem sNode_5 (V vars : List TFrac) (A B : Option Addr) (c e : Nat) (i j : Nat) (a3 : Int) (n d : Int) (w : World) (hi : i < V.length) (hj : j < V.length) (hA : AtFrac w A V) :
    Calls Tryz.prog 170 #[.agg #[.int .i64 5, .int .i64 (i : Int), .int .i64 (j : Int), .int .i64 a3, .int .i64 n, .int .i64 d], .slice A V.length c, .slice B vars.length e] w fun en w' => en = .returned (.tuple #[.agg #[.int .i64 (fracMul (fr V (i : Int)) (fr V (j : Int))).1, .int .i64 (fracMul (fr V (i : Int)) (fr V (j : Int))).2.1], .bool (fracMul (fr V (i : Int)) (fr V (j : Int))).2.2]) ∧ Same w w' := by
  obtain ⟨b, off, x, rfl, hc, HX, hbl⟩ := hA.at_ hi
  obtain ⟨b', off', y, he, hcy, HY, _⟩ := hA.at_ hj
  injection he with he
  injection he with he1 he2
  subst he1 he2
  obtain ⟨n1, d1⟩ := x
  obtain ⟨m1, e1⟩ := y
  have HFA := Lib.hid (show fr V (i : Int) = (n1, d1) from fr_some HX.out)
  have HFB := Lib.hid (show fr V (j : Int) = (m1, e1) from fr_some HY.out)
  have p0 := hc 0 _ rfl
  have p1 := hc 1 _ rfl
  have r0 := hcy 0 _ rfl
  have r1 := hcy 1 _ rfl
  simp only [Nat.add_zero] at p0 p1 r0 r1
  have hbl2 : b < w.heap.size + 1 := by omega
  have hbl3 : b < w.heap.size + 1 + 1 := by omega
  have hbl4 : b < w.heap.size + 1 + 1 + 1 := by omega
  clear hc hcy HX HY hA
  go_enter Tryz.func170, Tryz.ntmps170
  go_wp2_with fail
  have h1 : BoxAt ((((w.alloc (.cells #[.int .i64 5, .int .i64 (i : Int), .int .i64 (j : Int), .int .i64 a3, .int .i64 n, .int .i64 d] 191)).alloc (.cells #[.int .i64 0, .int .i64 0] 101)).alloc (.cells #[.int .i64 n1, .int .i64 d1] 101)).alloc (.cells #[.int .i64 m1, .int .i64 e1] 101)) (w.heap.size) 191 [.int .i64 5, .int .i64 (i : Int), .int .i64 (j : Int), .int .i64 a3, .int .i64 n, .int .i64 d] := by simpa using (BoxAt.alloc (BoxAt.alloc (BoxAt.alloc (BoxAt.new w 191 [.int .i64 5, .int .i64 (i : Int), .int .i64 (j : Int), .int .i64 a3, .int .i64 n, .int .i64 d]) (.cells #[.int .i64 0, .int .i64 0] 101)) (.cells #[.int .i64 n1, .int .i64 d1] 101)) (.cells #[.int .i64 m1, .int .i64 e1] 101))
  have h2 : BoxAt ((((w.alloc (.cells #[.int .i64 5, .int .i64 (i : Int), .int .i64 (j : Int), .int .i64 a3, .int .i64 n, .int .i64 d] 191)).alloc (.cells #[.int .i64 0, .int .i64 0] 101)).alloc (.cells #[.int .i64 n1, .int .i64 d1] 101)).alloc (.cells #[.int .i64 m1, .int .i64 e1] 101)) (w.heap.size + 1) 101 [.int .i64 0, .int .i64 0] := by simpa using (BoxAt.alloc (BoxAt.alloc (BoxAt.new (w.alloc (.cells #[.int .i64 5, .int .i64 (i : Int), .int .i64 (j : Int), .int .i64 a3, .int .i64 n, .int .i64 d] 191)) 101 [.int .i64 0, .int .i64 0]) (.cells #[.int .i64 n1, .int .i64 d1] 101)) (.cells #[.int .i64 m1, .int .i64 e1] 101))
  have h3 : BoxAt ((((w.alloc (.cells #[.int .i64 5, .int .i64 (i : Int), .int .i64 (j : Int), .int .i64 a3, .int .i64 n, .int .i64 d] 191)).alloc (.cells #[.int .i64 0, .int .i64 0] 101)).alloc (.cells #[.int .i64 n1, .int .i64 d1] 101)).alloc (.cells #[.int .i64 m1, .int .i64 e1] 101)) (w.heap.size + 1 + 1) 101 [.int .i64 n1, .int .i64 d1] := by simpa using (BoxAt.alloc (BoxAt.new ((w.alloc (.cells #[.int .i64 5, .int .i64 (i : Int), .int .i64 (j : Int), .int .i64 a3, .int .i64 n, .int .i64 d] 191)).alloc (.cells #[.int .i64 0, .int .i64 0] 101)) 101 [.int .i64 n1, .int .i64 d1]) (.cells #[.int .i64 m1, .int .i64 e1] 101))
  have h4 : BoxAt ((((w.alloc (.cells #[.int .i64 5, .int .i64 (i : Int), .int .i64 (j : Int), .int .i64 a3, .int .i64 n, .int .i64 d] 191)).alloc (.cells #[.int .i64 0, .int .i64 0] 101)).alloc (.cells #[.int .i64 n1, .int .i64 d1] 101)).alloc (.cells #[.int .i64 m1, .int .i64 e1] 101)) (w.heap.size + 1 + 1 + 1) 101 [.int .i64 m1, .int .i64 e1] := by simpa using (BoxAt.new (((w.alloc (.cells #[.int .i64 5, .int .i64 (i : Int), .int .i64 (j : Int), .int .i64 a3, .int .i64 n, .int .i64 d] 191)).alloc (.cells #[.int .i64 0, .int .i64 0] 101)).alloc (.cells #[.int .i64 n1, .int .i64 d1] 101)) 101 [.int .i64 m1, .int .i64 e1])
  have hs0 := (Same.alloc (Same.alloc (Same.alloc (Same.alloc (Same.refl w) (.cells #[.int .i64 5, .int .i64 (i : Int), .int .i64 (j : Int), .int .i64 a3, .int .i64 n, .int .i64 d] 191)) (.cells #[.int .i64 0, .int .i64 0] 101)) (.cells #[.int .i64 n1, .int .i64 d1] 101)) (.cells #[.int .i64 m1, .int .i64 e1] 101))
  generalize ((((w.alloc (.cells #[.int .i64 5, .int .i64 (i : Int), .int .i64 (j : Int), .int .i64 a3, .int .i64 n, .int .i64 d] 191)).alloc (.cells #[.int .i64 0, .int .i64 0] 101)).alloc (.cells #[.int .i64 n1, .int .i64 d1] 101)).alloc (.cells #[.int .i64 m1, .int .i64 e1] 101)) = w1 at *
  have S1 := hs0
  refine (sFracMul_any n1 d1 m1 e1 _).mono ?_
  rintro en w2 ⟨rfl, hs2⟩
  replace h2 := h2.same hs2
  have S2 := S1.trans hs2
  have x0 := h2.cell 0 rfl
  have x1 := h2.cell 1 rfl
  have xf0 := h2.frozen 0
  have xf1 := h2.frozen 1
  have xL := h2.lt
  have HR := Lib.hid (show fracMul (fr V (i : Int)) (fr V (j : Int)) = fracMul (n1, d1) (m1, e1) by rw [HFA.out, HFB.out])
  go_wp2
  have h9 := (h2.set 0 (.int .i64 (fracMul (n1, d1) (m1, e1)).1)).set 1 (.int .i64 (fracMul (n1, d1) (m1, e1)).2.1)
  have S9 := (S2.setCell (p := ⟨(w.heap.size + 1), 0, none⟩) (show w.heap.size ≤ w.heap.size + 1 by omega) (.int .i64 (fracMul (n1, d1) (m1, e1)).1)).setCell (p := ⟨(w.heap.size + 1), 1, none⟩) (show w.heap.size ≤ w.heap.size + 1 by omega) (.int .i64 (fracMul (n1, d1) (m1, e1)).2.1)
  generalize (w2.setCell ⟨(w.heap.size + 1), 0, none⟩ (.int .i64 (fracMul (n1, d1) (m1, e1)).1)).setCell ⟨(w.heap.size + 1), 1, none⟩ (.int .i64 (fracMul (n1, d1) (m1, e1)).2.1) = w9 at *
  have z0 := h9.cell 0 rfl
  have z1 := h9.cell 1 rfl
  exact bodyPost_ret (v := .tuple #[.agg #[.int .i64 (fracMul (n1, d1) (m1, e1)).1, .int .i64 (fracMul (n1, d1) (m1, e1)).2.1], .bool (fracMul (n1, d1) (m1, e1)).2.2]) (by simp [results, Tryz.results170, go_sem, z0, z1]) rfl ⟨by rw [HR.out], S9⟩

set_option maxRecDepth 10000 in
set_option maxHeartbeats 4000000 in
theorem sNode_6 (V vars : List TFrac) (A B : Option Addr) (c e : Nat) (i j : Nat) (a3 : Int) (n d : Int) (w : World) (hi : i < V.length) (hj : j < V.length) (hA : AtFrac w A V) :
    Calls Tryz.prog 170 #[.agg #[.int .i64 6, .int .i64 (i : Int), .int .i64 (j : Int), .int .i64 a3, .int .i64 n, .int .i64 d], .slice A V.length c, .slice B vars.length e] w fun en w' => en = .returned (.tuple #[.agg #[.int .i64 (fracDiv (fr V (i : Int)) (fr V (j : Int))).1, .int .i64 (fracDiv (fr V (i : Int)) (fr V (j : Int))).2.1], .bool (fracDiv (fr V (i : Int)) (fr V (j : Int))).2.2]) ∧ Same w w' := by
  obtain ⟨b, off, x, rfl, hc, HX, hbl⟩ := hA.at_ hi
  obtain ⟨b', off', y, he, hcy, HY, _⟩ := hA.at_ hj
  injection he with he
  injection he with he1 he2
  subst he1 he2
  obtain ⟨n1, d1⟩ := x
  obtain ⟨m1, e1⟩ := y
  have HFA := Lib.hid (show fr V (i : Int) = (n1, d1) from fr_some HX.out)
  have HFB := Lib.hid (show fr V (j : Int) = (m1, e1) from fr_some HY.out)
  have p0 := hc 0 _ rfl
  have p1 := hc 1 _ rfl
  have r0 := hcy 0 _ rfl
  have r1 := hcy 1 _ rfl
  simp only [Nat.add_zero] at p0 p1 r0 r1
  have hbl2 : b < w.heap.size + 1 := by omega
  have hbl3 : b < w.heap.size + 1 + 1 := by omega
  have hbl4 : b < w.heap.size + 1 + 1 + 1 := by omega
  clear hc hcy HX HY hA
  go_enter Tryz.func170, Tryz.ntmps170
  go_wp2_with fail
  have h1 : BoxAt ((((w.alloc (.cells #[.int .i64 6, .int .i64 (i : Int), .int .i64 (j : Int), .int .i64 a3, .int .i64 n, .int .i64 d] 191)).alloc (.cells #[.int .i64 0, .int .i64 0] 101)).alloc (.cells #[.int .i64 n1, .int .i64 d1] 101)).alloc (.cells #[.int .i64 m1, .int .i64 e1] 101)) (w.heap.size) 191 [.int .i64 6, .int .i64 (i : Int), .int .i64 (j : Int), .int .i64 a3, .int .i64 n, .int .i64 d] := by simpa using (BoxAt.alloc (BoxAt.alloc (BoxAt.alloc (BoxAt.new w 191 [.int .i64 6, .int .i64 (i : Int), .int .i64 (j : Int), .int .i64 a3, .int .i64 n, .int .i64 d]) (.cells #[.int .i64 0, .int .i64 0] 101)) (.cells #[.int .i64 n1, .int .i64 d1] 101)) (.cells #[.int .i64 m1, .int .i64 e1] 101))
  have h2 : BoxAt ((((w.alloc (.cells #[.int .i64 6, .int .i64 (i : Int), .int .i64 (j : Int), .int .i64 a3, .int .i64 n, .int .i64 d] 191)).alloc (.cells #[.int .i64 0, .int .i64 0] 101)).alloc (.cells #[.int .i64 n1, .int .i64 d1] 101)).alloc (.cells #[.int .i64 m1, .int .i64 e1] 101)) (w.heap.size + 1) 101 [.int .i64 0, .int .i64 0] := by simpa using (BoxAt.alloc (BoxAt.alloc (BoxAt.new (w.alloc (.cells #[.int .i64 6, .int .i64 (i : Int), .int .i64 (j : Int), .int .i64 a3, .int .i64 n, .int .i64 d] 191)) 101 [.int .i64 0, .int .i64 0]) (.cells #[.int .i64 n1, .int .i64 d1] 101)) (.cells #[.int .i64 m1, .int .i64 e1] 101))
  have h3 : BoxAt ((((w.alloc (.cells #[.int .i64 6, .int .i64 (i : Int), .int .i64 (j : Int), .int .i64 a3, .int .i64 n, .int .i64 d] 191)).alloc (.cells #[.int .i64 0, .int .i64 0] 101)).alloc (.cells #[.int .i64 n1, .int .i64 d1] 101)).alloc (.cells #[.int .i64 m1, .int .i64 e1] 101)) (w.heap.size + 1 + 1) 101 [.int .i64 n1, .int .i64 d1] := by simpa using (BoxAt.alloc (BoxAt.new ((w.alloc (.cells #[.int .i64 6, .int .i64 (i : Int), .int .i64 (j : Int), .int .i64 a3, .int .i64 n, .int .i64 d] 191)).alloc (.cells #[.int .i64 0, .int .i64 0] 101)) 101 [.int .i64 n1, .int .i64 d1]) (.cells #[.int .i64 m1, .int .i64 e1] 101))
  have h4 : BoxAt ((((w.alloc (.cells #[.int .i64 6, .int .i64 (i : Int), .int .i64 (j : Int), .int .i64 a3, .int .i64 n, .int .i64 d] 191)).alloc (.cells #[.int .i64 0, .int .i64 0] 101)).alloc (.cells #[.int .i64 n1, .int .i64 d1] 101)).alloc (.cells #[.int .i64 m1, .int .i64 e1] 101)) (w.heap.size + 1 + 1 + 1) 101 [.int .i64 m1, .int .i64 e1] := by simpa using (BoxAt.new (((w.alloc (.cells #[.int .i64 6, .int .i64 (i : Int), .int .i64 (j : Int), .int .i64 a3, .int .i64 n, .int .i64 d] 191)).alloc (.cells #[.int .i64 0, .int .i64 0] 101)).alloc (.cells #[.int .i64 n1, .int .i64 d1] 101)) 101 [.int .i64 m1, .int .i64 e1])
  have hs0 := (Same.alloc (Same.alloc (Same.alloc (Same.alloc (Same.refl w) (.cells #[.int .i64 6, .int .i64 (i : Int), .int .i64 (j : Int), .int .i64 a3, .int .i64 n, .int .i64 d] 191)) (.cells #[.int .i64 0, .int .i64 0] 101)) (.cells #[.int .i64 n1, .int .i64 d1] 101)) (.cells #[.int .i64 m1, .int .i64 e1] 101))
  generalize ((((w.alloc (.cells #[.int .i64 6, .int .i64 (i : Int), .int .i64 (j : Int), .int .i64 a3, .int .i64 n, .int .i64 d] 191)).alloc (.cells #[.int .i64 0, .int .i64 0] 101)).alloc (.cells #[.int .i64 n1, .int .i64 d1] 101)).alloc (.cells #[.int .i64 m1, .int .i64 e1] 101)) = w1 at *
  have S1 := hs0
  refine (sFracDiv_any n1 d1 m1 e1 _).mono ?_
  rintro en w2 ⟨rfl, hs2⟩
  replace h2 := h2.same hs2
  have S2 := S1.trans hs2
  have x0 := h2.cell 0 rfl
  have x1 := h2.cell 1 rfl
  have xf0 := h2.frozen 0
  have xf1 := h2.frozen 1
  have xL := h2.lt
  have HR := Lib.hid (show fracDiv (fr V (i : Int)) (fr V (j : Int)) = fracDiv (n1, d1) (m1, e1) by rw [HFA.out, HFB.out])
  go_wp2
  have h9 := (h2.set 0 (.int .i64 (fracDiv (n1, d1) (m1, e1)).1)).set 1 (.int .i64 (fracDiv (n1, d1) (m1, e1)).2.1)
  have S9 := (S2.setCell (p := ⟨(w.heap.size + 1), 0, none⟩) (show w.heap.size ≤ w.heap.size + 1 by omega) (.int .i64 (fracDiv (n1, d1) (m1, e1)).1)).setCell (p := ⟨(w.heap.size + 1), 1, none⟩) (show w.heap.size ≤ w.heap.size + 1 by omega) (.int .i64 (fracDiv (n1, d1) (m1, e1)).2.1)
  generalize (w2.setCell ⟨(w.heap.size + 1), 0, none⟩ (.int .i64 (fracDiv (n1, d1) (m1, e1)).1)).setCell ⟨(w.heap.size + 1), 1, none⟩ (.int .i64 (fracDiv (n1, d1) (m1, e1)).2.1) = w9 at *
  have z0 := h9.cell 0 rfl
  have z1 := h9.cell 1 rfl
  exact bodyPost_ret (v := .tuple #[.agg #[.int .i64 (fracDiv (n1, d1) (m1, e1)).1, .int .i64 (fracDiv (n1, d1) (m1, e1)).2.1], .bool (fracDiv (n1, d1) (m1, e1)).2.2]) (by simp [results, Tryz.results170, go_sem, z0, z1]) rfl ⟨by rw [HR.out], S9⟩

set_option maxRecDepth 10000 in
set_option maxHeartbeats 4000000 in
theorem sNode_7 (V vars : List TFrac) (A B : Option Addr) (c e : Nat) (i j : Nat) (a3 : Int) (r : RFrac) (n d : Int) (w : World) (hi : i < V.length) (hj : j < V.length) (hA : AtFrac w A V) (HR0 : Hid (r = (if fracCmp (fr V (j : Int)) (fr V (i : Int)) < 0 then yesF (fr V (j : Int)) else yesF (fr V (i : Int))))) :
    Calls Tryz.prog 170 #[.agg #[.int .i64 7, .int .i64 (i : Int), .int .i64 (j : Int), .int .i64 a3, .int .i64 n, .int .i64 d], .slice A V.length c, .slice B vars.length e] w fun en w' => en = .returned (.tuple #[.agg #[.int .i64 (r).1, .int .i64 (r).2.1], .bool (r).2.2]) ∧ Same w w' := by
  obtain ⟨b, off, x, rfl, hc, HX, hbl⟩ := hA.at_ hi
  obtain ⟨b', off', y, he, hcy, HY, _⟩ := hA.at_ hj
  injection he with he
  injection he with he1 he2
  subst he1 he2
  obtain ⟨n1, d1⟩ := x
  obtain ⟨m1, e1⟩ := y
  have HFA := Lib.hid (show fr V (i : Int) = (n1, d1) from fr_some HX.out)
  have HFB := Lib.hid (show fr V (j : Int) = (m1, e1) from fr_some HY.out)
  have p0 := hc 0 _ rfl
  have p1 := hc 1 _ rfl
  have r0 := hcy 0 _ rfl
  have r1 := hcy 1 _ rfl
  simp only [Nat.add_zero] at p0 p1 r0 r1
  have hbl2 : b < w.heap.size + 1 := by omega
  have hbl3 : b < w.heap.size + 1 + 1 := by omega
  have hbl4 : b < w.heap.size + 1 + 1 + 1 := by omega
  clear hc hcy HX HY hA
  go_enter Tryz.func170, Tryz.ntmps170
  go_wp2_with fail
  have h1 : BoxAt ((((w.alloc (.cells #[.int .i64 7, .int .i64 (i : Int), .int .i64 (j : Int), .int .i64 a3, .int .i64 n, .int .i64 d] 191)).alloc (.cells #[.int .i64 0, .int .i64 0] 101)).alloc (.cells #[.int .i64 n1, .int .i64 d1] 101)).alloc (.cells #[.int .i64 m1, .int .i64 e1] 101)) (w.heap.size) 191 [.int .i64 7, .int .i64 (i : Int), .int .i64 (j : Int), .int .i64 a3, .int .i64 n, .int .i64 d] := by simpa using (BoxAt.alloc (BoxAt.alloc (BoxAt.alloc (BoxAt.new w 191 [.int .i64 7, .int .i64 (i : Int), .int .i64 (j : Int), .int .i64 a3, .int .i64 n, .int .i64 d]) (.cells #[.int .i64 0, .int .i64 0] 101)) (.cells #[.int .i64 n1, .int .i64 d1] 101)) (.cells #[.int .i64 m1, .int .i64 e1] 101))
  have h2 : BoxAt ((((w.alloc (.cells #[.int .i64 7, .int .i64 (i : Int), .int .i64 (j : Int), .int .i64 a3, .int .i64 n, .int .i64 d] 191)).alloc (.cells #[.int .i64 0, .int .i64 0] 101)).alloc (.cells #[.int .i64 n1, .int .i64 d1] 101)).alloc (.cells #[.int .i64 m1, .int .i64 e1] 101)) (w.heap.size + 1) 101 [.int .i64 0, .int .i64 0] := by simpa using (BoxAt.alloc (BoxAt.alloc (BoxAt.new (w.alloc (.cells #[.int .i64 7, .int .i64 (i : Int), .int .i64 (j : Int), .int .i64 a3, .int .i64 n, .int .i64 d] 191)) 101 [.int .i64 0, .int .i64 0]) (.cells #[.int .i64 n1, .int .i64 d1] 101)) (.cells #[.int .i64 m1, .int .i64 e1] 101))
  have h3 : BoxAt ((((w.alloc (.cells #[.int .i64 7, .int .i64 (i : Int), .int .i64 (j : Int), .int .i64 a3, .int .i64 n, .int .i64 d] 191)).alloc (.cells #[.int .i64 0, .int .i64 0] 101)).alloc (.cells #[.int .i64 n1, .int .i64 d1] 101)).alloc (.cells #[.int .i64 m1, .int .i64 e1] 101)) (w.heap.size + 1 + 1) 101 [.int .i64 n1, .int .i64 d1] := by simpa using (BoxAt.alloc (BoxAt.new ((w.alloc (.cells #[.int .i64 7, .int .i64 (i : Int), .int .i64 (j : Int), .int .i64 a3, .int .i64 n, .int .i64 d] 191)).alloc (.cells #[.int .i64 0, .int .i64 0] 101)) 101 [.int .i64 n1, .int .i64 d1]) (.cells #[.int .i64 m1, .int .i64 e1] 101))
  have h4 : BoxAt ((((w.alloc (.cells #[.int .i64 7, .int .i64 (i : Int), .int .i64 (j : Int), .int .i64 a3, .int .i64 n, .int .i64 d] 191)).alloc (.cells #[.int .i64 0, .int .i64 0] 101)).alloc (.cells #[.int .i64 n1, .int .i64 d1] 101)).alloc (.cells #[.int .i64 m1, .int .i64 e1] 101)) (w.heap.size + 1 + 1 + 1) 101 [.int .i64 m1, .int .i64 e1] := by simpa using (BoxAt.new (((w.alloc (.cells #[.int .i64 7, .int .i64 (i : Int), .int .i64 (j : Int), .int .i64 a3, .int .i64 n, .int .i64 d] 191)).alloc (.cells #[.int .i64 0, .int .i64 0] 101)).alloc (.cells #[.int .i64 n1, .int .i64 d1] 101)) 101 [.int .i64 m1, .int .i64 e1])
  have hs0 := (Same.alloc (Same.alloc (Same.alloc (Same.alloc (Same.refl w) (.cells #[.int .i64 7, .int .i64 (i : Int), .int .i64 (j : Int), .int .i64 a3, .int .i64 n, .int .i64 d] 191)) (.cells #[.int .i64 0, .int .i64 0] 101)) (.cells #[.int .i64 n1, .int .i64 d1] 101)) (.cells #[.int .i64 m1, .int .i64 e1] 101))
  generalize ((((w.alloc (.cells #[.int .i64 7, .int .i64 (i : Int), .int .i64 (j : Int), .int .i64 a3, .int .i64 n, .int .i64 d] 191)).alloc (.cells #[.int .i64 0, .int .i64 0] 101)).alloc (.cells #[.int .i64 n1, .int .i64 d1] 101)).alloc (.cells #[.int .i64 m1, .int .i64 e1] 101)) = w1 at *
  have S1 := hs0
  refine (sFracCmp_any m1 e1 n1 d1 _).mono ?_
  rintro en w2 ⟨rfl, hs2⟩
  replace h2 := h2.same hs2
  replace h3 := h3.same hs2
  replace h4 := h4.same hs2
  have S2 := S1.trans hs2
  have x0 := h2.cell 0 rfl
  have x1 := h2.cell 1 rfl
  have xf0 := h2.frozen 0
  have xf1 := h2.frozen 1
  have xL := h2.lt
  have y0 := h3.cell 0 rfl
  have y1 := h3.cell 1 rfl
  have yL := h3.lt
  have u0 := h4.cell 0 rfl
  have u1 := h4.cell 1 rfl
  have uL := h4.lt
  obtain ⟨q, eq⟩ : ∃ q, q = fracCmp (m1, e1) (n1, d1) := ⟨_, rfl⟩
  rw [← eq]
  by_cases hq0 : q < 0
  · have hq : fracCmp (m1, e1) (n1, d1) < 0 := by rw [← eq]; exact hq0
    clear eq
    have HR := Lib.hid (show r = (m1, e1, true) by rw [HR0.out, HFA.out, HFB.out, if_pos hq]; rfl)
    go_wp2
    have h9 := (h2.set 0 (.int .i64 m1)).set 1 (.int .i64 e1)
    have S9 := (S2.setCell (p := ⟨(w.heap.size + 1), 0, none⟩) (show w.heap.size ≤ w.heap.size + 1 by omega) (.int .i64 m1)).setCell (p := ⟨(w.heap.size + 1), 1, none⟩) (show w.heap.size ≤ w.heap.size + 1 by omega) (.int .i64 e1)
    generalize (w2.setCell ⟨(w.heap.size + 1), 0, none⟩ (.int .i64 m1)).setCell ⟨(w.heap.size + 1), 1, none⟩ (.int .i64 e1) = w9 at *
    have z0 := h9.cell 0 rfl
    have z1 := h9.cell 1 rfl
    exact bodyPost_ret (v := .tuple #[.agg #[.int .i64 m1, .int .i64 e1], .bool true]) (by simp [results, Tryz.results170, go_sem, z0, z1]) rfl ⟨by rw [HR.out], S9⟩
  · have hq : ¬ (fracCmp (m1, e1) (n1, d1) < 0) := by rw [← eq]; exact hq0
    clear eq
    have HR := Lib.hid (show r = (n1, d1, true) by rw [HR0.out, HFA.out, HFB.out, if_neg hq]; rfl)
    go_wp2
    have h9 := (h2.set 0 (.int .i64 n1)).set 1 (.int .i64 d1)
    have S9 := (S2.setCell (p := ⟨(w.heap.size + 1), 0, none⟩) (show w.heap.size ≤ w.heap.size + 1 by omega) (.int .i64 n1)).setCell (p := ⟨(w.heap.size + 1), 1, none⟩) (show w.heap.size ≤ w.heap.size + 1 by omega) (.int .i64 d1)
    generalize (w2.setCell ⟨(w.heap.size + 1), 0, none⟩ (.int .i64 n1)).setCell ⟨(w.heap.size + 1), 1, none⟩ (.int .i64 d1) = w9 at *
    have z0 := h9.cell 0 rfl
    have z1 := h9.cell 1 rfl
    exact bodyPost_ret (v := .tuple #[.agg #[.int .i64 n1, .int .i64 d1], .bool true]) (by simp [results, Tryz.results170, go_sem, z0, z1]) rfl ⟨by rw [HR.out], S9⟩

set_option maxRecDepth 10000 in
set_option maxHeartbeats 4000000 in
theorem sNode_8 (V vars : List TFrac) (A B : Option Addr) (c e : Nat) (i j : Nat) (a3 : Int) (r : RFrac) (n d : Int) (w : World) (hi : i < V.length) (hj : j < V.length) (hA : AtFrac w A V) (HR0 : Hid (r = (if 0 < fracCmp (fr V (j : Int)) (fr V (i : Int)) then yesF (fr V (j : Int)) else yesF (fr V (i : Int))))) :
    Calls Tryz.prog 170 #[.agg #[.int .i64 8, .int .i64 (i : Int), .int .i64 (j : Int), .int .i64 a3, .int .i64 n, .int .i64 d], .slice A V.length c, .slice B vars.length e] w fun en w' => en = .returned (.tuple #[.agg #[.int .i64 (r).1, .int .i64 (r).2.1], .bool (r).2.2]) ∧ Same w w' := by
  obtain ⟨b, off, x, rfl, hc, HX, hbl⟩ := hA.at_ hi
  obtain ⟨b', off', y, he, hcy, HY, _⟩ := hA.at_ hj
  injection he with he
  injection he with he1 he2
  subst he1 he2
  obtain ⟨n1, d1⟩ := x
  obtain ⟨m1, e1⟩ := y
  have HFA := Lib.hid (show fr V (i : Int) = (n1, d1) from fr_some HX.out)
  have HFB := Lib.hid (show fr V (j : Int) = (m1, e1) from fr_some HY.out)
  have p0 := hc 0 _ rfl
  have p1 := hc 1 _ rfl
  have r0 := hcy 0 _ rfl
  have r1 := hcy 1 _ rfl
  simp only [Nat.add_zero] at p0 p1 r0 r1
  have hbl2 : b < w.heap.size + 1 := by omega
  have hbl3 : b < w.heap.size + 1 + 1 := by omega
  have hbl4 : b < w.heap.size + 1 + 1 + 1 := by omega
  clear hc hcy HX HY hA
  go_enter Tryz.func170, Tryz.ntmps170
  go_wp2_with fail
  have h1 : BoxAt ((((w.alloc (.cells #[.int .i64 8, .int .i64 (i : Int), .int .i64 (j : Int), .int .i64 a3, .int .i64 n, .int .i64 d] 191)).alloc (.cells #[.int .i64 0, .int .i64 0] 101)).alloc (.cells #[.int .i64 n1, .int .i64 d1] 101)).alloc (.cells #[.int .i64 m1, .int .i64 e1] 101)) (w.heap.size) 191 [.int .i64 8, .int .i64 (i : Int), .int .i64 (j : Int), .int .i64 a3, .int .i64 n, .int .i64 d] := by simpa using (BoxAt.alloc (BoxAt.alloc (BoxAt.alloc (BoxAt.new w 191 [.int .i64 8, .int .i64 (i : Int), .int .i64 (j : Int), .int .i64 a3, .int .i64 n, .int .i64 d]) (.cells #[.int .i64 0, .int .i64 0] 101)) (.cells #[.int .i64 n1, .int .i64 d1] 101)) (.cells #[.int .i64 m1, .int .i64 e1] 101))
  have h2 : BoxAt ((((w.alloc (.cells #[.int .i64 8, .int .i64 (i : Int), .int .i64 (j : Int), .int .i64 a3, .int .i64 n, .int .i64 d] 191)).alloc (.cells #[.int .i64 0, .int .i64 0] 101)).alloc (.cells #[.int .i64 n1, .int .i64 d1] 101)).alloc (.cells #[.int .i64 m1, .int .i64 e1] 101)) (w.heap.size + 1) 101 [.int .i64 0, .int .i64 0] := by simpa using (BoxAt.alloc (BoxAt.alloc (BoxAt.new (w.alloc (.cells #[.int .i64 8, .int .i64 (i : Int), .int .i64 (j : Int), .int .i64 a3, .int .i64 n, .int .i64 d] 191)) 101 [.int .i64 0, .int .i64 0]) (.cells #[.int .i64 n1, .int .i64 d1] 101)) (.cells #[.int .i64 m1, .int .i64 e1] 101))
  have h3 : BoxAt ((((w.alloc (.cells #[.int .i64 8, .int .i64 (i : Int), .int .i64 (j : Int), .int .i64 a3, .int .i64 n, .int .i64 d] 191)).alloc (.cells #[.int .i64 0, .int .i64 0] 101)).alloc (.cells #[.int .i64 n1, .int .i64 d1] 101)).alloc (.cells #[.int .i64 m1, .int .i64 e1] 101)) (w.heap.size + 1 + 1) 101 [.int .i64 n1, .int .i64 d1] := by simpa using (BoxAt.alloc (BoxAt.new ((w.alloc (.cells #[.int .i64 8, .int .i64 (i : Int), .int .i64 (j : Int), .int .i64 a3, .int .i64 n, .int .i64 d] 191)).alloc (.cells #[.int .i64 0, .int .i64 0] 101)) 101 [.int .i64 n1, .int .i64 d1]) (.cells #[.int .i64 m1, .int .i64 e1] 101))
  have h4 : BoxAt ((((w.alloc (.cells #[.int .i64 8, .int .i64 (i : Int), .int .i64 (j : Int), .int .i64 a3, .int .i64 n, .int .i64 d] 191)).alloc (.cells #[.int .i64 0, .int .i64 0] 101)).alloc (.cells #[.int .i64 n1, .int .i64 d1] 101)).alloc (.cells #[.int .i64 m1, .int .i64 e1] 101)) (w.heap.size + 1 + 1 + 1) 101 [.int .i64 m1, .int .i64 e1] := by simpa using (BoxAt.new (((w.alloc (.cells #[.int .i64 8, .int .i64 (i : Int), .int .i64 (j : Int), .int .i64 a3, .int .i64 n, .int .i64 d] 191)).alloc (.cells #[.int .i64 0, .int .i64 0] 101)).alloc (.cells #[.int .i64 n1, .int .i64 d1] 101)) 101 [.int .i64 m1, .int .i64 e1])
  have hs0 := (Same.alloc (Same.alloc (Same.alloc (Same.alloc (Same.refl w) (.cells #[.int .i64 8, .int .i64 (i : Int), .int .i64 (j : Int), .int .i64 a3, .int .i64 n, .int .i64 d] 191)) (.cells #[.int .i64 0, .int .i64 0] 101)) (.cells #[.int .i64 n1, .int .i64 d1] 101)) (.cells #[.int .i64 m1, .int .i64 e1] 101))
  generalize ((((w.alloc (.cells #[.int .i64 8, .int .i64 (i : Int), .int .i64 (j : Int), .int .i64 a3, .int .i64 n, .int .i64 d] 191)).alloc (.cells #[.int .i64 0, .int .i64 0] 101)).alloc (.cells #[.int .i64 n1, .int .i64 d1] 101)).alloc (.cells #[.int .i64 m1, .int .i64 e1] 101)) = w1 at *
  have S1 := hs0
  refine (sFracCmp_any m1 e1 n1 d1 _).mono ?_
  rintro en w2 ⟨rfl, hs2⟩
  replace h2 := h2.same hs2
  replace h3 := h3.same hs2
  replace h4 := h4.same hs2
  have S2 := S1.trans hs2
  have x0 := h2.cell 0 rfl
  have x1 := h2.cell 1 rfl
  have xf0 := h2.frozen 0
  have xf1 := h2.frozen 1
  have xL := h2.lt
  have y0 := h3.cell 0 rfl
  have y1 := h3.cell 1 rfl
  have yL := h3.lt
  have u0 := h4.cell 0 rfl
  have u1 := h4.cell 1 rfl
  have uL := h4.lt
  obtain ⟨q, eq⟩ : ∃ q, q = fracCmp (m1, e1) (n1, d1) := ⟨_, rfl⟩
  rw [← eq]
  by_cases hq0 : 0 < q
  · have hq : 0 < fracCmp (m1, e1) (n1, d1) := by rw [← eq]; exact hq0
    clear eq
    have HR := Lib.hid (show r = (m1, e1, true) by rw [HR0.out, HFA.out, HFB.out, if_pos hq]; rfl)
    go_wp2
    have h9 := (h2.set 0 (.int .i64 m1)).set 1 (.int .i64 e1)
    have S9 := (S2.setCell (p := ⟨(w.heap.size + 1), 0, none⟩) (show w.heap.size ≤ w.heap.size + 1 by omega) (.int .i64 m1)).setCell (p := ⟨(w.heap.size + 1), 1, none⟩) (show w.heap.size ≤ w.heap.size + 1 by omega) (.int .i64 e1)
    generalize (w2.setCell ⟨(w.heap.size + 1), 0, none⟩ (.int .i64 m1)).setCell ⟨(w.heap.size + 1), 1, none⟩ (.int .i64 e1) = w9 at *
    have z0 := h9.cell 0 rfl
    have z1 := h9.cell 1 rfl
    exact bodyPost_ret (v := .tuple #[.agg #[.int .i64 m1, .int .i64 e1], .bool true]) (by simp [results, Tryz.results170, go_sem, z0, z1]) rfl ⟨by rw [HR.out], S9⟩
  · have hq : ¬ (0 < fracCmp (m1, e1) (n1, d1)) := by rw [← eq]; exact hq0
    clear eq
    have HR := Lib.hid (show r = (n1, d1, true) by rw [HR0.out, HFA.out, HFB.out, if_neg hq]; rfl)
    go_wp2
    have h9 := (h2.set 0 (.int .i64 n1)).set 1 (.int .i64 d1)
    have S9 := (S2.setCell (p := ⟨(w.heap.size + 1), 0, none⟩) (show w.heap.size ≤ w.heap.size + 1 by omega) (.int .i64 n1)).setCell (p := ⟨(w.heap.size + 1), 1, none⟩) (show w.heap.size ≤ w.heap.size + 1 by omega) (.int .i64 d1)
    generalize (w2.setCell ⟨(w.heap.size + 1), 0, none⟩ (.int .i64 n1)).setCell ⟨(w.heap.size + 1), 1, none⟩ (.int .i64 d1) = w9 at *
    have z0 := h9.cell 0 rfl
    have z1 := h9.cell 1 rfl
    exact bodyPost_ret (v := .tuple #[.agg #[.int .i64 n1, .int .i64 d1], .bool true]) (by simp [results, Tryz.results170, go_sem, z0, z1]) rfl ⟨by rw [HR.out], S9⟩

set_option maxRecDepth 10000 in
set_option maxHeartbeats 4000000 in
theorem sNode_9 (V vars : List TFrac) (A B : Option Addr) (c e : Nat) (i j l : Nat) (r : RFrac) (n d : Int) (w : World) (hi : i < V.length) (hj : j < V.length) (hA : AtFrac w A V) (hl : l < V.length) (HR0 : Hid (r = (if 0 < (fr V (i : Int)).1 then yesF (fr V (j : Int)) else yesF (fr V (l : Int))))) :
    Calls Tryz.prog 170 #[.agg #[.int .i64 9, .int .i64 (i : Int), .int .i64 (j : Int), .int .i64 (l : Int), .int .i64 n, .int .i64 d], .slice A V.length c, .slice B vars.length e] w fun en w' => en = .returned (.tuple #[.agg #[.int .i64 (r).1, .int .i64 (r).2.1], .bool (r).2.2]) ∧ Same w w' := by
  obtain ⟨b, off, x, rfl, hc, HX, hbl⟩ := hA.at_ hi
  obtain ⟨b', off', y, he, hcy, HY, _⟩ := hA.at_ hj
  injection he with he
  injection he with he1 he2
  subst he1 he2
  obtain ⟨n1, d1⟩ := x
  obtain ⟨m1, e1⟩ := y
  have HFA := Lib.hid (show fr V (i : Int) = (n1, d1) from fr_some HX.out)
  have HFB := Lib.hid (show fr V (j : Int) = (m1, e1) from fr_some HY.out)
  have p0 := hc 0 _ rfl
  have p1 := hc 1 _ rfl
  have r0 := hcy 0 _ rfl
  have r1 := hcy 1 _ rfl
  simp only [Nat.add_zero] at p0 p1 r0 r1
  have hbl2 : b < w.heap.size + 1 := by omega
  have hbl3 : b < w.heap.size + 1 + 1 := by omega
  have hbl4 : b < w.heap.size + 1 + 1 + 1 := by omega
  obtain ⟨b', off', z, he, hcz, HZ, _⟩ := hA.at_ hl
  injection he with he
  injection he with he1 he2
  subst he1 he2
  obtain ⟨l1, k1⟩ := z
  have HFC := Lib.hid (show fr V (l : Int) = (l1, k1) from fr_some HZ.out)
  have s0 := hcz 0 _ rfl
  have s1 := hcz 1 _ rfl
  simp only [Nat.add_zero] at s0 s1
  clear hc hcy hcz HX HY HZ hA
  by_cases hq : 0 < n1
  · have HR := Lib.hid (show r = (m1, e1, true) by rw [HR0.out, HFA.out, HFB.out]; exact if_pos hq)
    go_enter Tryz.func170, Tryz.ntmps170
    go_wp2
    have h2 : BoxAt ((((w.alloc (.cells #[.int .i64 9, .int .i64 (i : Int), .int .i64 (j : Int), .int .i64 (l : Int), .int .i64 n, .int .i64 d] 191)).alloc (.cells #[.int .i64 m1, .int .i64 e1] 101)).alloc (.cells #[.int .i64 n1, .int .i64 d1] 101)).alloc (.cells #[.int .i64 m1, .int .i64 e1] 101)) (w.heap.size + 1) 101 [.int .i64 m1, .int .i64 e1] := by simpa using (BoxAt.alloc (BoxAt.alloc (BoxAt.new (w.alloc (.cells #[.int .i64 9, .int .i64 (i : Int), .int .i64 (j : Int), .int .i64 (l : Int), .int .i64 n, .int .i64 d] 191)) 101 [.int .i64 m1, .int .i64 e1]) (.cells #[.int .i64 n1, .int .i64 d1] 101)) (.cells #[.int .i64 m1, .int .i64 e1] 101))
    have hs0 := (Same.alloc (Same.alloc (Same.alloc (Same.alloc (Same.refl w) (.cells #[.int .i64 9, .int .i64 (i : Int), .int .i64 (j : Int), .int .i64 (l : Int), .int .i64 n, .int .i64 d] 191)) (.cells #[.int .i64 m1, .int .i64 e1] 101)) (.cells #[.int .i64 n1, .int .i64 d1] 101)) (.cells #[.int .i64 m1, .int .i64 e1] 101))
    generalize ((((w.alloc (.cells #[.int .i64 9, .int .i64 (i : Int), .int .i64 (j : Int), .int .i64 (l : Int), .int .i64 n, .int .i64 d] 191)).alloc (.cells #[.int .i64 m1, .int .i64 e1] 101)).alloc (.cells #[.int .i64 n1, .int .i64 d1] 101)).alloc (.cells #[.int .i64 m1, .int .i64 e1] 101)) = w0 at *
    have z0 := h2.cell 0 rfl
    have z1 := h2.cell 1 rfl
    exact bodyPost_ret (v := .tuple #[.agg #[.int .i64 m1, .int .i64 e1], .bool true]) (by simp [results, Tryz.results170, go_sem, z0, z1]) rfl ⟨by rw [HR.out], hs0⟩
  · have HR := Lib.hid (show r = (l1, k1, true) by rw [HR0.out, HFA.out, HFC.out]; exact if_neg hq)
    go_enter Tryz.func170, Tryz.ntmps170
    go_wp2
    have h2 : BoxAt ((((w.alloc (.cells #[.int .i64 9, .int .i64 (i : Int), .int .i64 (j : Int), .int .i64 (l : Int), .int .i64 n, .int .i64 d] 191)).alloc (.cells #[.int .i64 l1, .int .i64 k1] 101)).alloc (.cells #[.int .i64 n1, .int .i64 d1] 101)).alloc (.cells #[.int .i64 m1, .int .i64 e1] 101)) (w.heap.size + 1) 101 [.int .i64 l1, .int .i64 k1] := by simpa using (BoxAt.alloc (BoxAt.alloc (BoxAt.new (w.alloc (.cells #[.int .i64 9, .int .i64 (i : Int), .int .i64 (j : Int), .int .i64 (l : Int), .int .i64 n, .int .i64 d] 191)) 101 [.int .i64 l1, .int .i64 k1]) (.cells #[.int .i64 n1, .int .i64 d1] 101)) (.cells #[.int .i64 m1, .int .i64 e1] 101))
    have hs0 := (Same.alloc (Same.alloc (Same.alloc (Same.alloc (Same.refl w) (.cells #[.int .i64 9, .int .i64 (i : Int), .int .i64 (j : Int), .int .i64 (l : Int), .int .i64 n, .int .i64 d] 191)) (.cells #[.int .i64 l1, .int .i64 k1] 101)) (.cells #[.int .i64 n1, .int .i64 d1] 101)) (.cells #[.int .i64 m1, .int .i64 e1] 101))
    generalize ((((w.alloc (.cells #[.int .i64 9, .int .i64 (i : Int), .int .i64 (j : Int), .int .i64 (l : Int), .int .i64 n, .int .i64 d] 191)).alloc (.cells #[.int .i64 l1, .int .i64 k1] 101)).alloc (.cells #[.int .i64 n1, .int .i64 d1] 101)).alloc (.cells #[.int .i64 m1, .int .i64 e1] 101)) = w0 at *
    have z0 := h2.cell 0 rfl
    have z1 := h2.cell 1 rfl
    exact bodyPost_ret (v := .tuple #[.agg #[.int .i64 l1, .int .i64 k1], .bool true]) (by simp [results, Tryz.results170, go_sem, z0, z1]) rfl ⟨by rw [HR.out], hs0⟩
end Go.Proofs.YtjfmknhnplefnaaGreat
