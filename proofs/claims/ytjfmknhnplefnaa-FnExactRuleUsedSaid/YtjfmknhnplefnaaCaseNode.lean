/-
  Nodes and rules: their copies and comparisons, alone and in lists.
-/
import Derived.Test.YtjfmknhnplefnaaCaseRec
namespace Go.Proofs.Ytjfmknhnplefnaa
open Go.RowKit
set_option linter.unusedVariables false

theorem OwnR.put {T : Type} {s : Nat} {cells : T → List Value} {e : TypeId} {a : World} {base : Nat} {v : Value} {L : List T} (h : OwnR e s cells a base v L) (g j : Nat) (u : Value) (hg : g < base) : OwnR e s cells (a.setCell ⟨g, j, none⟩ u) base v L :=
  OwnR.upd h (upd_setCell a g j u) (OwnR.zn h) (.inr hg)

theorem toFrac_any (f0 f1 : Int) (w : World) : Calls Try.prog 88 #[.agg #[.int .i64 f0, .int .i64 f1]] w fun e w' => e = .returned (.agg #[.int .i64 f0, .int .i64 f1]) ∧ Same w w' := by
  go_enter Try.func88, Try.ntmps88
  go_wp2
  exact bodyPost_ret (v := .agg #[.int .i64 f0, .int .i64 f1]) (by simp [results, Try.results88, go_sem]) rfl ⟨rfl, (((Same.refl w).alloc _).alloc _).alloc _⟩
theorem eqFrac_same (f0 f1 : Int) (w : World) : Calls Try.prog 90 #[.agg #[.int .i64 f0, .int .i64 f1], .agg #[.int .i64 f0, .int .i64 f1]] w fun e w' => e = .returned (.bool true) ∧ Same w w' := by
  have b0 : (f0 != f0) = false := by simp
  have b1 : (f1 != f1) = false := by simp
  go_enter Try.func90, Try.ntmps90
  go_wp2
  go_ret
  exact ⟨rfl, ((Same.refl w).alloc _).alloc _⟩

def cNode (x : TNode) : List Value := [.int .i64 x.1, .int .i64 x.2.1, .int .i64 x.2.2.1, .int .i64 x.2.2.2.1, .int .i64 x.2.2.2.2.1, .int .i64 x.2.2.2.2.2]
theorem cNode_len (x : TNode) : (cNode x).length = 6 := rfl
theorem cNode_one (x : TNode) : ∀ u ∈ cNode x, u.oneCell' = true := by
  intro u hu
  simp only [cNode, List.mem_cons, List.not_mem_nil, or_false] at hu
  rcases hu with rfl | rfl | rfl | rfl | rfl | rfl <;> rfl
theorem Try.infoNode : (Try.prog.info? 137).map (fun i => (i.zero, i.size, i.bytes)) = some (some (.agg #[.int .i64 0, .int .i64 0, .int .i64 0, .int .i64 0, .int .i64 0, .int .i64 0]), 6, 48) := by kernel_rfl
abbrev OwnNode (w : World) (base : Nat) (v : Value) (L : List TNode) : Prop := OwnR 137 6 cNode w base v L
abbrev AtNode (w : World) (A : Option Addr) (L : List TNode) : Prop := RecAt 6 cNode w A L

set_option maxRecDepth 10000 in
set_option maxHeartbeats 1000000 in
theorem toNode_any (f0 f1 f2 f3 f4 f5 : Int) (w : World) :
    Calls Try.prog 82 #[.agg #[.int .i64 f0, .int .i64 f1, .int .i64 f2, .int .i64 f3, .int .i64 f4, .int .i64 f5]] w fun e w' => e = .returned (.agg #[.int .i64 f0, .int .i64 f1, .int .i64 f2, .int .i64 f3, .int .i64 f4, .int .i64 f5]) ∧ Same w w' := by
  go_enter Try.func82, Try.ntmps82
  go_wp2_with fail
  have h1 : BoxAt (((w.alloc (.cells #[.int .i64 f0, .int .i64 f1, .int .i64 f2, .int .i64 f3, .int .i64 f4, .int .i64 f5] 141)).alloc (.cells #[.int .i64 0, .int .i64 0, .int .i64 0, .int .i64 0, .int .i64 0, .int .i64 0] 137)).alloc (.cells #[.int .i64 f0, .int .i64 f1, .int .i64 f2, .int .i64 f3, .int .i64 0, .int .i64 0] 137)) (w.heap.size) 141 [.int .i64 f0, .int .i64 f1, .int .i64 f2, .int .i64 f3, .int .i64 f4, .int .i64 f5] := by simpa using (BoxAt.alloc (BoxAt.alloc (BoxAt.new w 141 [.int .i64 f0, .int .i64 f1, .int .i64 f2, .int .i64 f3, .int .i64 f4, .int .i64 f5]) (.cells #[.int .i64 0, .int .i64 0, .int .i64 0, .int .i64 0, .int .i64 0, .int .i64 0] 137)) (.cells #[.int .i64 f0, .int .i64 f1, .int .i64 f2, .int .i64 f3, .int .i64 0, .int .i64 0] 137))
  have h2 : BoxAt (((w.alloc (.cells #[.int .i64 f0, .int .i64 f1, .int .i64 f2, .int .i64 f3, .int .i64 f4, .int .i64 f5] 141)).alloc (.cells #[.int .i64 0, .int .i64 0, .int .i64 0, .int .i64 0, .int .i64 0, .int .i64 0] 137)).alloc (.cells #[.int .i64 f0, .int .i64 f1, .int .i64 f2, .int .i64 f3, .int .i64 0, .int .i64 0] 137)) (w.heap.size + 1) 137 [.int .i64 0, .int .i64 0, .int .i64 0, .int .i64 0, .int .i64 0, .int .i64 0] := by simpa using (BoxAt.alloc (BoxAt.new (w.alloc (.cells #[.int .i64 f0, .int .i64 f1, .int .i64 f2, .int .i64 f3, .int .i64 f4, .int .i64 f5] 141)) 137 [.int .i64 0, .int .i64 0, .int .i64 0, .int .i64 0, .int .i64 0, .int .i64 0]) (.cells #[.int .i64 f0, .int .i64 f1, .int .i64 f2, .int .i64 f3, .int .i64 0, .int .i64 0] 137))
  have h3 : BoxAt (((w.alloc (.cells #[.int .i64 f0, .int .i64 f1, .int .i64 f2, .int .i64 f3, .int .i64 f4, .int .i64 f5] 141)).alloc (.cells #[.int .i64 0, .int .i64 0, .int .i64 0, .int .i64 0, .int .i64 0, .int .i64 0] 137)).alloc (.cells #[.int .i64 f0, .int .i64 f1, .int .i64 f2, .int .i64 f3, .int .i64 0, .int .i64 0] 137)) (w.heap.size + 1 + 1) 137 [.int .i64 f0, .int .i64 f1, .int .i64 f2, .int .i64 f3, .int .i64 0, .int .i64 0] := by simpa using (BoxAt.new ((w.alloc (.cells #[.int .i64 f0, .int .i64 f1, .int .i64 f2, .int .i64 f3, .int .i64 f4, .int .i64 f5] 141)).alloc (.cells #[.int .i64 0, .int .i64 0, .int .i64 0, .int .i64 0, .int .i64 0, .int .i64 0] 137)) 137 [.int .i64 f0, .int .i64 f1, .int .i64 f2, .int .i64 f3, .int .i64 0, .int .i64 0])
  have hs0 := (Same.alloc (Same.alloc (Same.alloc (Same.refl w) (.cells #[.int .i64 f0, .int .i64 f1, .int .i64 f2, .int .i64 f3, .int .i64 f4, .int .i64 f5] 141)) (.cells #[.int .i64 0, .int .i64 0, .int .i64 0, .int .i64 0, .int .i64 0, .int .i64 0] 137)) (.cells #[.int .i64 f0, .int .i64 f1, .int .i64 f2, .int .i64 f3, .int .i64 0, .int .i64 0] 137))
  generalize (((w.alloc (.cells #[.int .i64 f0, .int .i64 f1, .int .i64 f2, .int .i64 f3, .int .i64 f4, .int .i64 f5] 141)).alloc (.cells #[.int .i64 0, .int .i64 0, .int .i64 0, .int .i64 0, .int .i64 0, .int .i64 0] 137)).alloc (.cells #[.int .i64 f0, .int .i64 f1, .int .i64 f2, .int .i64 f3, .int .i64 0, .int .i64 0] 137)) = w0 at *
  have n0 := hs0.size
  have nn := h3.lt
  have a0 := h1.cell 4 rfl
  have a1 := h1.cell 5 rfl
  refine (toFrac_any f4 f5 _).mono ?_
  rintro e w1 ⟨rfl, hs1⟩
  have S1 := hs0.trans hs1
  have m1 := hs1.size
  clear a0 a1
  replace h1 := h1.same hs1
  replace h2 := h2.same hs1
  replace h3 := h3.same hs1
  have d0_0 := h3.cell 4 rfl
  have f0_0 := h3.frozen 4
  have d0_1 := h3.cell 5 rfl
  have f0_1 := h3.frozen 5
  replace h1 := h1.other (k := (w.heap.size + 1 + 1)) (j := 4) (.int .i64 f4) (by omega)
  replace h2 := h2.other (k := (w.heap.size + 1 + 1)) (j := 4) (.int .i64 f4) (by omega)
  replace h3 := h3.set 4 (.int .i64 f4)
  replace S1 := S1.setCell (p := ⟨(w.heap.size + 1 + 1), 4, none⟩) (by first | (simp; done) | (simp; omega) | omega) (.int .i64 f4)
  replace h1 := h1.other (k := (w.heap.size + 1 + 1)) (j := 5) (.int .i64 f5) (by omega)
  replace h2 := h2.other (k := (w.heap.size + 1 + 1)) (j := 5) (.int .i64 f5) (by omega)
  replace h3 := h3.set 5 (.int .i64 f5)
  replace S1 := S1.setCell (p := ⟨(w.heap.size + 1 + 1), 5, none⟩) (by first | (simp; done) | (simp; omega) | omega) (.int .i64 f5)
  have q1 : w0.heap.size ≤ ((w1.setCell ⟨(w.heap.size + 1 + 1), 4, none⟩ (.int .i64 f4)).setCell ⟨(w.heap.size + 1 + 1), 5, none⟩ (.int .i64 f5)).heap.size := by first | (simp; done) | (simp; omega) | omega
  have o0 := h3.cell 0 rfl
  have o1 := h3.cell 1 rfl
  have o2 := h3.cell 2 rfl
  have o3 := h3.cell 3 rfl
  have o4 := h3.cell 4 rfl
  have o5 := h3.cell 5 rfl
  have r0 := h2.cell 0 rfl
  have g0 := h2.frozen 0
  have r1 := h2.cell 1 rfl
  have g1 := h2.frozen 1
  have r2 := h2.cell 2 rfl
  have g2 := h2.frozen 2
  have r3 := h2.cell 3 rfl
  have g3 := h2.frozen 3
  have r4 := h2.cell 4 rfl
  have g4 := h2.frozen 4
  have r5 := h2.cell 5 rfl
  have g5 := h2.frozen 5
  have hx := ((((((h2.set 0 (.int .i64 f0)).set 1 (.int .i64 f1)).set 2 (.int .i64 f2)).set 3 (.int .i64 f3)).set 4 (.int .i64 f4)).set 5 (.int .i64 f5))
  have x0 := hx.cell 0 rfl
  have x1 := hx.cell 1 rfl
  have x2 := hx.cell 2 rfl
  have x3 := hx.cell 3 rfl
  have x4 := hx.cell 4 rfl
  have x5 := hx.cell 5 rfl
  have ST := ((((((S1.setCell (p := ⟨(w.heap.size + 1), 0, none⟩) (by first | (simp; done) | (simp; omega) | omega) (.int .i64 f0)).setCell (p := ⟨(w.heap.size + 1), 1, none⟩) (by first | (simp; done) | (simp; omega) | omega) (.int .i64 f1)).setCell (p := ⟨(w.heap.size + 1), 2, none⟩) (by first | (simp; done) | (simp; omega) | omega) (.int .i64 f2)).setCell (p := ⟨(w.heap.size + 1), 3, none⟩) (by first | (simp; done) | (simp; omega) | omega) (.int .i64 f3)).setCell (p := ⟨(w.heap.size + 1), 4, none⟩) (by first | (simp; done) | (simp; omega) | omega) (.int .i64 f4)).setCell (p := ⟨(w.heap.size + 1), 5, none⟩) (by first | (simp; done) | (simp; omega) | omega) (.int .i64 f5))
  clear hx h1 h2 h3
  go_wp2
  exact bodyPost_ret (v := .agg #[.int .i64 f0, .int .i64 f1, .int .i64 f2, .int .i64 f3, .int .i64 f4, .int .i64 f5]) (by simp [results, Try.results82, go_sem, x0, x1, x2, x3, x4, x5]) rfl ⟨rfl, ST⟩

theorem eqNode_same (f0 f1 f2 f3 f4 f5 : Int) (w : World) : Calls Try.prog 84 #[.agg #[.int .i64 f0, .int .i64 f1, .int .i64 f2, .int .i64 f3, .int .i64 f4, .int .i64 f5], .agg #[.int .i64 f0, .int .i64 f1, .int .i64 f2, .int .i64 f3, .int .i64 f4, .int .i64 f5]] w fun e w' => e = .returned (.bool true) ∧ Same w w' := by
  have b0 : (f0 != f0) = false := by simp
  have b1 : (f1 != f1) = false := by simp
  have b2 : (f2 != f2) = false := by simp
  have b3 : (f3 != f3) = false := by simp
  go_enter Try.func84, Try.ntmps84
  go_wp2_with fail
  refine (eqFrac_same f4 f5 _).mono ?_
  rintro e w1 ⟨rfl, hs1⟩
  go_wp2
  go_ret
  exact ⟨rfl, (((Same.refl w).alloc _).alloc _).trans hs1⟩

theorem szNodeS_any (A : Option Addr) (n c : Nat) (l : Int) (w : World) (hn : n ≤ 9223372036854775807) (h0 : 0 ≤ l) (h1 : l ≤ 1048576) :
    Calls Try.prog 72 #[.slice A n c, .int .i64 l] w fun e w' => e = .returned (.int .i64 (if (n : Int) ≤ l then l - n else -1)) ∧ w = w' := by
  by_cases h : (n : Int) ≤ l
  · go_enter Try.func72, Try.ntmps72
    go_wp2
    go_ret
    exact ⟨rfl, rfl⟩
  · go_enter Try.func72, Try.ntmps72
    go_wp2
    go_ret
    exact ⟨rfl, rfl⟩

set_option maxHeartbeats 1000000 in
theorem toNodeS_any (A : Option Addr) (c : Nat) (L : List TNode) (w : World) (hz : L.length ≤ 1048576) (hA : AtNode w A L) :
    Calls Try.prog 76 #[.slice A L.length c] w fun e w' => e = .returned (.slice (some ⟨w.heap.size, 0, none⟩) L.length L.length) ∧
      OwnNode w' w.heap.size (.slice (some ⟨w.heap.size, 0, none⟩) L.length L.length) L ∧ Same w w' := by
  obtain ⟨i0, hi, hz0, hz1, hz2⟩ := info_parts Try.infoNode
  go_enter Try.func76, Try.ntmps76
  go_wp2_with (at_make; refine wpList_make_full _ rfl _ _ 80 rfl w.heap.size 137 i0 (.agg #[.int .i64 0, .int .i64 0, .int .i64 0, .int .i64 0, .int .i64 0, .int .i64 0]) 6 Try.underlying80 hi hz0 hz1 _ _ _ _ L.length rfl rfl rfl rfl ?b2 ?b3 ?b4 ?_)
  case b2 => rw [hz2]; omega
  case b3 => unfold maxLen; omega
  case b4 => exact Nat.le_refl _
  intro w1 hown hgrow
  have hs1 : Same w w1 := (Same.refl w).grown hgrow (fun g h => by cases h)
  have hown1 : OwnNode w1 w.heap.size (.slice (some ⟨w.heap.size, 0, none⟩) L.length L.length) (List.replicate L.length (0, 0, 0, 0, 0, 0)) := by
    have hm := madeCells_flat (s := 6) (cells := cNode) (cNode (0, 0, 0, 0, 0, 0)) (0, 0, 0, 0, 0, 0) rfl rfl (by omega) L.length
    show World.ownsRow _ _ _ _ _ _ _
    rw [List.length_replicate, ← hm]
    exact hown
  clear hown hgrow
  go_wp2
  go_loopw [4] (fun i wr => ∃ k : Nat, k ≤ L.length ∧ i = .int .i64 k ∧
      OwnNode wr w.heap.size (.slice (some ⟨w.heap.size, 0, none⟩) L.length L.length) (mix L (List.replicate L.length (0, 0, 0, 0, 0, 0)) k) ∧ Same w wr) (fun i _ => L.length - (intOf i).toNat)
  case atStart => exact ⟨0, Nat.zero_le _, rfl, by rw [mix_zero]; exact hown1, hs1⟩
  case round =>
    obtain ⟨k, hk, rfl, hown, hs⟩ := hrel
    by_cases hlt : k < L.length
    · obtain ⟨b, off, x, rfl, hc, HX, hb⟩ := (hA.same hs).at_ hlt
      clear hA hown1
      obtain ⟨f0, f1, f2, f3, f4, f5⟩ := x
      have c0 := hc 0 _ rfl
      have c1 := hc 1 _ rfl
      have c2 := hc 2 _ rfl
      have c3 := hc 3 _ rfl
      have c4 := hc 4 _ rfl
      have c5 := hc 5 _ rfl
      simp only [Nat.add_zero] at c0
      clear hc
      go_wp2_with fail
      refine (toNode_any f0 f1 f2 f3 f4 f5 _).mono ?_
      rintro e w2 ⟨rfl, hs2⟩
      have hown2 := hown.same hs2
      have hss := hs.trans hs2
      clear hown hs2 hs c0 c1 c2 c3 c4 c5
      obtain ⟨u, hu⟩ : ∃ u, (mix L (List.replicate L.length (0, 0, 0, 0, 0, 0)) k)[k]? = some u := ⟨_, List.getElem?_eq_getElem (by rw [mix_length (by simp) (by omega)]; exact hlt)⟩
      obtain ⟨u0_, u1_, u2_, u3_, u4_, u5_⟩ := u
      obtain ⟨_, _, hd, hf⟩ := hown2.atg cNode_len hu
      have hst := hown2.set cNode_len (k := k) (by rw [mix_length (by simp) (by omega)]; exact hlt) (f0, f1, f2, f3, f4, f5)
      clear hown2 hu
      have d0 := hd 0 _ rfl
      have d1 := hd 1 _ rfl
      have d2 := hd 2 _ rfl
      have d3 := hd 3 _ rfl
      have d4 := hd 4 _ rfl
      have d5 := hd 5 _ rfl
      simp only [Nat.add_zero] at d0
      clear hd
      have hf0 := hf (k * 6)
      have hf1 := hf (k * 6 + 1)
      have hf2 := hf (k * 6 + 2)
      have hf3 := hf (k * 6 + 3)
      have hf4 := hf (k * 6 + 4)
      have hf5 := hf (k * 6 + 5)
      clear hf
      go_wp2
      go_roundw
      case rel =>
        refine ⟨k + 1, hlt, by go_num, ?_, hss.grown hst.out.2 (fun g hg => by injection hg with hg; omega)⟩
        have := hst.out.1
        rw [mix_set HX.out (by simp)] at this
        exact this
      case measure => simp [intOf]; omega
    · go_wp2
      go_ret
      refine ⟨rfl, ?_, hs⟩
      rwa [mix_full _ _ (by omega) (by simp)] at hown

set_option maxRecDepth 10000 in
set_option maxHeartbeats 1000000 in
theorem eqNodeS_same (A B : Option Addr) (c d : Nat) (xs : List TNode) (w : World) (hx : xs.length ≤ 9223372036854775807) (hA : AtNode w A xs) (hB : AtNode w B xs) :
    Calls Try.prog 80 #[.slice A xs.length c, .slice B xs.length d] w fun e w' => e = .returned (.bool true) ∧ Same w w' := by
  have hne : ((xs.length : Int) != (xs.length : Int)) = false := by simp
  go_enter Try.func80, Try.ntmps80
  go_wp2
  go_loopw [5] (fun i wr => ∃ k : Nat, k ≤ xs.length ∧ i = .int .i64 k ∧ Same w wr) (fun i _ => xs.length - (intOf i).toNat)
  case atStart => exact ⟨0, Nat.zero_le _, rfl, Same.refl _⟩
  case round =>
    obtain ⟨k, hk, rfl, hd⟩ := hrel
    by_cases hlt : k < xs.length
    · obtain ⟨b, off, x, rfl, hc, HX, _⟩ := (hA.same hd).at_ hlt
      obtain ⟨b', off', y, rfl, hc', HY, _⟩ := (hB.same hd).at_ hlt
      obtain rfl : x = y := Option.some.inj (HX.out.symm.trans HY.out)
      clear hA hB HX HY
      obtain ⟨f0, f1, f2, f3, f4, f5⟩ := x
      have c0 := hc 0 _ rfl
      have c1 := hc 1 _ rfl
      have c2 := hc 2 _ rfl
      have c3 := hc 3 _ rfl
      have c4 := hc 4 _ rfl
      have c5 := hc 5 _ rfl
      simp only [Nat.add_zero] at c0
      clear hc
      have e0 := hc' 0 _ rfl
      have e1 := hc' 1 _ rfl
      have e2 := hc' 2 _ rfl
      have e3 := hc' 3 _ rfl
      have e4 := hc' 4 _ rfl
      have e5 := hc' 5 _ rfl
      simp only [Nat.add_zero] at e0
      clear hc'
      go_wp2
      go_still_tail 8, (by kernel_rfl)
      change wpList _ _ _ _ _ wr.drew
      have hdr : Same w wr.drew := hd.drew
      generalize wr.drew = w2 at *
      go_wp2_with fail
      refine (eqNode_same f0 f1 f2 f3 f4 f5 _).mono ?_
      rintro e w3 ⟨rfl, hs3⟩
      have hss := hdr.trans hs3
      clear c0 e0 c1 e1 c2 e2 c3 e3 c4 e4 c5 e5 hs3 hdr hd
      go_wp2
      go_roundw
      case rel => exact ⟨k + 1, hlt, by go_num, hss⟩
      case measure => simp [intOf]; omega
    · go_wp2
      go_ret
      exact ⟨rfl, hd⟩
end Go.Proofs.Ytjfmknhnplefnaa
