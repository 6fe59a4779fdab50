/- Joined of CaseNode, CaseRule: what is proved stands ahead of each part. -/
import Derived.Test.YtjfmknhnplefnaaGreatZCaseRec

section
/-
  Nodes and rules: their copies and comparisons, alone and in lists.
-/
namespace Go.Proofs.YtjfmknhnplefnaaGreat
open Go.RowKit
set_option linter.unusedVariables false

theorem OwnR.put {T : Type} {s : Nat} {cells : T → List Value} {e : TypeId} {a : World} {base : Nat} {v : Value} {L : List T} (h : OwnR e s cells a base v L) (g j : Nat) (u : Value) (hg : g < base) : OwnR e s cells (a.setCell ⟨g, j, none⟩ u) base v L :=
  OwnR.upd h (upd_setCell a g j u) (OwnR.zn h) (.inr hg)

theorem toFrac_any (f0 f1 : Int) (w : World) : Calls Tryz.prog 218 #[.agg #[.int .i64 f0, .int .i64 f1]] w fun e w' => e = .returned (.agg #[.int .i64 f0, .int .i64 f1]) ∧ Same w w' := by
  go_enter Tryz.func218, Tryz.ntmps218
  go_wp2
  exact bodyPost_ret (v := .agg #[.int .i64 f0, .int .i64 f1]) (by simp [results, Tryz.results218, go_sem]) rfl ⟨rfl, (((Same.refl w).alloc _).alloc _).alloc _⟩
theorem eqFrac_same (f0 f1 : Int) (w : World) : Calls Tryz.prog 88 #[.agg #[.int .i64 f0, .int .i64 f1], .agg #[.int .i64 f0, .int .i64 f1]] w fun e w' => e = .returned (.bool true) ∧ Same w w' := by
  have b0 : (f0 != f0) = false := by simp
  have b1 : (f1 != f1) = false := by simp
  go_enter Tryz.func88, Tryz.ntmps88
  go_wp2
  go_ret
  exact ⟨rfl, ((Same.refl w).alloc _).alloc _⟩

def cNode (x : TNode) : List Value := [.int .i64 x.1, .int .i64 x.2.1, .int .i64 x.2.2.1, .int .i64 x.2.2.2.1, .int .i64 x.2.2.2.2.1, .int .i64 x.2.2.2.2.2]
theorem cNode_len (x : TNode) : (cNode x).length = 6 := rfl
theorem cNode_one (x : TNode) : ∀ u ∈ cNode x, u.oneCell' = true := by
  intro u hu
  simp only [cNode, List.mem_cons, List.not_mem_nil, or_false] at hu
  rcases hu with rfl | rfl | rfl | rfl | rfl | rfl <;> rfl
theorem Tryz.infoNode : (Tryz.prog.info? 191).map (fun i => (i.zero, i.size, i.bytes)) = some (some (.agg #[.int .i64 0, .int .i64 0, .int .i64 0, .int .i64 0, .int .i64 0, .int .i64 0]), 6, 48) := by kernel_rfl
abbrev OwnNode (w : World) (base : Nat) (v : Value) (L : List TNode) : Prop := OwnR 191 6 cNode w base v L
abbrev AtNode (w : World) (A : Option Addr) (L : List TNode) : Prop := RecAt 6 cNode w A L

set_option maxRecDepth 10000 in
set_option maxHeartbeats 1000000 in
theorem toNode_any (f0 f1 f2 f3 f4 f5 : Int) (w : World) :
    Calls Tryz.prog 214 #[.agg #[.int .i64 f0, .int .i64 f1, .int .i64 f2, .int .i64 f3, .int .i64 f4, .int .i64 f5]] w fun e w' => e = .returned (.agg #[.int .i64 f0, .int .i64 f1, .int .i64 f2, .int .i64 f3, .int .i64 f4, .int .i64 f5]) ∧ Same w w' := by
  go_enter Tryz.func214, Tryz.ntmps214
  go_wp2_with fail
  have h1 : BoxAt (((w.alloc (.cells #[.int .i64 f0, .int .i64 f1, .int .i64 f2, .int .i64 f3, .int .i64 f4, .int .i64 f5] 237)).alloc (.cells #[.int .i64 0, .int .i64 0, .int .i64 0, .int .i64 0, .int .i64 0, .int .i64 0] 191)).alloc (.cells #[.int .i64 f0, .int .i64 f1, .int .i64 f2, .int .i64 f3, .int .i64 0, .int .i64 0] 191)) (w.heap.size) 237 [.int .i64 f0, .int .i64 f1, .int .i64 f2, .int .i64 f3, .int .i64 f4, .int .i64 f5] := by simpa using (BoxAt.alloc (BoxAt.alloc (BoxAt.new w 237 [.int .i64 f0, .int .i64 f1, .int .i64 f2, .int .i64 f3, .int .i64 f4, .int .i64 f5]) (.cells #[.int .i64 0, .int .i64 0, .int .i64 0, .int .i64 0, .int .i64 0, .int .i64 0] 191)) (.cells #[.int .i64 f0, .int .i64 f1, .int .i64 f2, .int .i64 f3, .int .i64 0, .int .i64 0] 191))
  have h2 : BoxAt (((w.alloc (.cells #[.int .i64 f0, .int .i64 f1, .int .i64 f2, .int .i64 f3, .int .i64 f4, .int .i64 f5] 237)).alloc (.cells #[.int .i64 0, .int .i64 0, .int .i64 0, .int .i64 0, .int .i64 0, .int .i64 0] 191)).alloc (.cells #[.int .i64 f0, .int .i64 f1, .int .i64 f2, .int .i64 f3, .int .i64 0, .int .i64 0] 191)) (w.heap.size + 1) 191 [.int .i64 0, .int .i64 0, .int .i64 0, .int .i64 0, .int .i64 0, .int .i64 0] := by simpa using (BoxAt.alloc (BoxAt.new (w.alloc (.cells #[.int .i64 f0, .int .i64 f1, .int .i64 f2, .int .i64 f3, .int .i64 f4, .int .i64 f5] 237)) 191 [.int .i64 0, .int .i64 0, .int .i64 0, .int .i64 0, .int .i64 0, .int .i64 0]) (.cells #[.int .i64 f0, .int .i64 f1, .int .i64 f2, .int .i64 f3, .int .i64 0, .int .i64 0] 191))
  have h3 : BoxAt (((w.alloc (.cells #[.int .i64 f0, .int .i64 f1, .int .i64 f2, .int .i64 f3, .int .i64 f4, .int .i64 f5] 237)).alloc (.cells #[.int .i64 0, .int .i64 0, .int .i64 0, .int .i64 0, .int .i64 0, .int .i64 0] 191)).alloc (.cells #[.int .i64 f0, .int .i64 f1, .int .i64 f2, .int .i64 f3, .int .i64 0, .int .i64 0] 191)) (w.heap.size + 1 + 1) 191 [.int .i64 f0, .int .i64 f1, .int .i64 f2, .int .i64 f3, .int .i64 0, .int .i64 0] := by simpa using (BoxAt.new ((w.alloc (.cells #[.int .i64 f0, .int .i64 f1, .int .i64 f2, .int .i64 f3, .int .i64 f4, .int .i64 f5] 237)).alloc (.cells #[.int .i64 0, .int .i64 0, .int .i64 0, .int .i64 0, .int .i64 0, .int .i64 0] 191)) 191 [.int .i64 f0, .int .i64 f1, .int .i64 f2, .int .i64 f3, .int .i64 0, .int .i64 0])
  have hs0 := (Same.alloc (Same.alloc (Same.alloc (Same.refl w) (.cells #[.int .i64 f0, .int .i64 f1, .int .i64 f2, .int .i64 f3, .int .i64 f4, .int .i64 f5] 237)) (.cells #[.int .i64 0, .int .i64 0, .int .i64 0, .int .i64 0, .int .i64 0, .int .i64 0] 191)) (.cells #[.int .i64 f0, .int .i64 f1, .int .i64 f2, .int .i64 f3, .int .i64 0, .int .i64 0] 191))
  generalize (((w.alloc (.cells #[.int .i64 f0, .int .i64 f1, .int .i64 f2, .int .i64 f3, .int .i64 f4, .int .i64 f5] 237)).alloc (.cells #[.int .i64 0, .int .i64 0, .int .i64 0, .int .i64 0, .int .i64 0, .int .i64 0] 191)).alloc (.cells #[.int .i64 f0, .int .i64 f1, .int .i64 f2, .int .i64 f3, .int .i64 0, .int .i64 0] 191)) = w0 at *
  have n0 := hs0.size
  have nn := h3.lt
  have a0 := h1.cell 4 rfl
  have a1 := h1.cell 5 rfl
  refine (toFrac_any f4 f5 _).mono ?_
  rintro e w1 ⟨rfl, hs1⟩
  have S1 := hs0.trans hs1
  have m1 := hs1.size
  clear a0 a1
  replace h1 := h1.same hs1
  replace h2 := h2.same hs1
  replace h3 := h3.same hs1
  have d0_0 := h3.cell 4 rfl
  have f0_0 := h3.frozen 4
  have d0_1 := h3.cell 5 rfl
  have f0_1 := h3.frozen 5
  replace h1 := h1.other (k := (w.heap.size + 1 + 1)) (j := 4) (.int .i64 f4) (by omega)
  replace h2 := h2.other (k := (w.heap.size + 1 + 1)) (j := 4) (.int .i64 f4) (by omega)
  replace h3 := h3.set 4 (.int .i64 f4)
  replace S1 := S1.setCell (p := ⟨(w.heap.size + 1 + 1), 4, none⟩) (by first | (simp; done) | (simp; omega) | omega) (.int .i64 f4)
  replace h1 := h1.other (k := (w.heap.size + 1 + 1)) (j := 5) (.int .i64 f5) (by omega)
  replace h2 := h2.other (k := (w.heap.size + 1 + 1)) (j := 5) (.int .i64 f5) (by omega)
  replace h3 := h3.set 5 (.int .i64 f5)
  replace S1 := S1.setCell (p := ⟨(w.heap.size + 1 + 1), 5, none⟩) (by first | (simp; done) | (simp; omega) | omega) (.int .i64 f5)
  have q1 : w0.heap.size ≤ ((w1.setCell ⟨(w.heap.size + 1 + 1), 4, none⟩ (.int .i64 f4)).setCell ⟨(w.heap.size + 1 + 1), 5, none⟩ (.int .i64 f5)).heap.size := by first | (simp; done) | (simp; omega) | omega
  have o0 := h3.cell 0 rfl
  have o1 := h3.cell 1 rfl
  have o2 := h3.cell 2 rfl
  have o3 := h3.cell 3 rfl
  have o4 := h3.cell 4 rfl
  have o5 := h3.cell 5 rfl
  have r0 := h2.cell 0 rfl
  have g0 := h2.frozen 0
  have r1 := h2.cell 1 rfl
  have g1 := h2.frozen 1
  have r2 := h2.cell 2 rfl
  have g2 := h2.frozen 2
  have r3 := h2.cell 3 rfl
  have g3 := h2.frozen 3
  have r4 := h2.cell 4 rfl
  have g4 := h2.frozen 4
  have r5 := h2.cell 5 rfl
  have g5 := h2.frozen 5
  have hx := ((((((h2.set 0 (.int .i64 f0)).set 1 (.int .i64 f1)).set 2 (.int .i64 f2)).set 3 (.int .i64 f3)).set 4 (.int .i64 f4)).set 5 (.int .i64 f5))
  have x0 := hx.cell 0 rfl
  have x1 := hx.cell 1 rfl
  have x2 := hx.cell 2 rfl
  have x3 := hx.cell 3 rfl
  have x4 := hx.cell 4 rfl
  have x5 := hx.cell 5 rfl
  have ST := ((((((S1.setCell (p := ⟨(w.heap.size + 1), 0, none⟩) (by first | (simp; done) | (simp; omega) | omega) (.int .i64 f0)).setCell (p := ⟨(w.heap.size + 1), 1, none⟩) (by first | (simp; done) | (simp; omega) | omega) (.int .i64 f1)).setCell (p := ⟨(w.heap.size + 1), 2, none⟩) (by first | (simp; done) | (simp; omega) | omega) (.int .i64 f2)).setCell (p := ⟨(w.heap.size + 1), 3, none⟩) (by first | (simp; done) | (simp; omega) | omega) (.int .i64 f3)).setCell (p := ⟨(w.heap.size + 1), 4, none⟩) (by first | (simp; done) | (simp; omega) | omega) (.int .i64 f4)).setCell (p := ⟨(w.heap.size + 1), 5, none⟩) (by first | (simp; done) | (simp; omega) | omega) (.int .i64 f5))
  clear hx h1 h2 h3
  go_wp2
  exact bodyPost_ret (v := .agg #[.int .i64 f0, .int .i64 f1, .int .i64 f2, .int .i64 f3, .int .i64 f4, .int .i64 f5]) (by simp [results, Tryz.results214, go_sem, x0, x1, x2, x3, x4, x5]) rfl ⟨rfl, ST⟩

theorem eqNode_same (f0 f1 f2 f3 f4 f5 : Int) (w : World) : Calls Tryz.prog 215 #[.agg #[.int .i64 f0, .int .i64 f1, .int .i64 f2, .int .i64 f3, .int .i64 f4, .int .i64 f5], .agg #[.int .i64 f0, .int .i64 f1, .int .i64 f2, .int .i64 f3, .int .i64 f4, .int .i64 f5]] w fun e w' => e = .returned (.bool true) ∧ Same w w' := by
  have b0 : (f0 != f0) = false := by simp
  have b1 : (f1 != f1) = false := by simp
  have b2 : (f2 != f2) = false := by simp
  have b3 : (f3 != f3) = false := by simp
  go_enter Tryz.func215, Tryz.ntmps215
  go_wp2_with fail
  refine (eqFrac_same f4 f5 _).mono ?_
  rintro e w1 ⟨rfl, hs1⟩
  go_wp2
  go_ret
  exact ⟨rfl, (((Same.refl w).alloc _).alloc _).trans hs1⟩

theorem szNodeS_any (A : Option Addr) (n c : Nat) (l : Int) (w : World) (hn : n ≤ 9223372036854775807) (h0 : 0 ≤ l) (h1 : l ≤ 1048576) :
    Calls Tryz.prog 201 #[.slice A n c, .int .i64 l] w fun e w' => e = .returned (.int .i64 (if (n : Int) ≤ l then l - n else -1)) ∧ w = w' := by
  by_cases h : (n : Int) ≤ l
  · go_enter Tryz.func201, Tryz.ntmps201
    go_wp2
    go_ret
    exact ⟨rfl, rfl⟩
  · go_enter Tryz.func201, Tryz.ntmps201
    go_wp2
    go_ret
    exact ⟨rfl, rfl⟩

set_option maxHeartbeats 1000000 in
theorem toNodeS_any (A : Option Addr) (c : Nat) (L : List TNode) (w : World) (hz : L.length ≤ 1048576) (hA : AtNode w A L) :
    Calls Tryz.prog 202 #[.slice A L.length c] w fun e w' => e = .returned (.slice (some ⟨w.heap.size, 0, none⟩) L.length L.length) ∧
      OwnNode w' w.heap.size (.slice (some ⟨w.heap.size, 0, none⟩) L.length L.length) L ∧ Same w w' := by
  obtain ⟨i0, hi, hz0, hz1, hz2⟩ := info_parts Tryz.infoNode
  go_enter Tryz.func202, Tryz.ntmps202
  go_wp2_with (at_make; refine wpList_make_full _ rfl _ _ 112 rfl w.heap.size 191 i0 (.agg #[.int .i64 0, .int .i64 0, .int .i64 0, .int .i64 0, .int .i64 0, .int .i64 0]) 6 Tryz.underlying112 hi hz0 hz1 _ _ _ _ L.length rfl rfl rfl rfl ?b2 ?b3 ?b4 ?_)
  case b2 => rw [hz2]; omega
  case b3 => unfold maxLen; omega
  case b4 => exact Nat.le_refl _
  intro w1 hown hgrow
  have hs1 : Same w w1 := (Same.refl w).grown hgrow (fun g h => by cases h)
  have hown1 : OwnNode w1 w.heap.size (.slice (some ⟨w.heap.size, 0, none⟩) L.length L.length) (List.replicate L.length (0, 0, 0, 0, 0, 0)) := by
    have hm := madeCells_flat (s := 6) (cells := cNode) (cNode (0, 0, 0, 0, 0, 0)) (0, 0, 0, 0, 0, 0) rfl rfl (by omega) L.length
    show World.ownsRow _ _ _ _ _ _ _
    rw [List.length_replicate, ← hm]
    exact hown
  clear hown hgrow
  go_wp2
  go_loopw [4] (fun i wr => ∃ k : Nat, k ≤ L.length ∧ i = .int .i64 k ∧
      OwnNode wr w.heap.size (.slice (some ⟨w.heap.size, 0, none⟩) L.length L.length) (mix L (List.replicate L.length (0, 0, 0, 0, 0, 0)) k) ∧ Same w wr) (fun i _ => L.length - (intOf i).toNat)
  case atStart => exact ⟨0, Nat.zero_le _, rfl, by rw [mix_zero]; exact hown1, hs1⟩
  case round =>
    obtain ⟨k, hk, rfl, hown, hs⟩ := hrel
    by_cases hlt : k < L.length
    · obtain ⟨b, off, x, rfl, hc, HX, hb⟩ := (hA.same hs).at_ hlt
      clear hA hown1
      obtain ⟨f0, f1, f2, f3, f4, f5⟩ := x
      have c0 := hc 0 _ rfl
      have c1 := hc 1 _ rfl
      have c2 := hc 2 _ rfl
      have c3 := hc 3 _ rfl
      have c4 := hc 4 _ rfl
      have c5 := hc 5 _ rfl
      simp only [Nat.add_zero] at c0
      clear hc
      go_wp2_with fail
      refine (toNode_any f0 f1 f2 f3 f4 f5 _).mono ?_
      rintro e w2 ⟨rfl, hs2⟩
      have hown2 := hown.same hs2
      have hss := hs.trans hs2
      clear hown hs2 hs c0 c1 c2 c3 c4 c5
      obtain ⟨u, hu⟩ : ∃ u, (mix L (List.replicate L.length (0, 0, 0, 0, 0, 0)) k)[k]? = some u := ⟨_, List.getElem?_eq_getElem (by rw [mix_length (by simp) (by omega)]; exact hlt)⟩
      obtain ⟨u0_, u1_, u2_, u3_, u4_, u5_⟩ := u
      obtain ⟨_, _, hd, hf⟩ := hown2.atg cNode_len hu
      have hst := hown2.set cNode_len (k := k) (by rw [mix_length (by simp) (by omega)]; exact hlt) (f0, f1, f2, f3, f4, f5)
      clear hown2 hu
      have d0 := hd 0 _ rfl
      have d1 := hd 1 _ rfl
      have d2 := hd 2 _ rfl
      have d3 := hd 3 _ rfl
      have d4 := hd 4 _ rfl
      have d5 := hd 5 _ rfl
      simp only [Nat.add_zero] at d0
      clear hd
      have hf0 := hf (k * 6)
      have hf1 := hf (k * 6 + 1)
      have hf2 := hf (k * 6 + 2)
      have hf3 := hf (k * 6 + 3)
      have hf4 := hf (k * 6 + 4)
      have hf5 := hf (k * 6 + 5)
      clear hf
      go_wp2
      go_roundw
      case rel =>
        refine ⟨k + 1, hlt, by go_num, ?_, hss.grown hst.out.2 (fun g hg => by injection hg with hg; omega)⟩
        have := hst.out.1
        rw [mix_set HX.out (by simp)] at this
        exact this
      case measure => simp [intOf]; omega
    · go_wp2
      go_ret
      refine ⟨rfl, ?_, hs⟩
      rwa [mix_full _ _ (by omega) (by simp)] at hown

set_option maxRecDepth 10000 in
set_option maxHeartbeats 1000000 in
theorem eqNodeS_same (A B : Option Addr) (c d : Nat) (xs : List TNode) (w : World) (hx : xs.length ≤ 9223372036854775807) (hA : AtNode w A xs) (hB : AtNode w B xs) :
    Calls Tryz.prog 203 #[.slice A xs.length c, .slice B xs.length d] w fun e w' => e = .returned (.bool true) ∧ Same w w' := by
  have hne : ((xs.length : Int) != (xs.length : Int)) = false := by simp
  go_enter Tryz.func203, Tryz.ntmps203
  go_wp2
  go_loopw [5] (fun i wr => ∃ k : Nat, k ≤ xs.length ∧ i = .int .i64 k ∧ Same w wr) (fun i _ => xs.length - (intOf i).toNat)
  case atStart => exact ⟨0, Nat.zero_le _, rfl, Same.refl _⟩
  case round =>
    obtain ⟨k, hk, rfl, hd⟩ := hrel
    by_cases hlt : k < xs.length
    · obtain ⟨b, off, x, rfl, hc, HX, _⟩ := (hA.same hd).at_ hlt
      obtain ⟨b', off', y, rfl, hc', HY, _⟩ := (hB.same hd).at_ hlt
      obtain rfl : x = y := Option.some.inj (HX.out.symm.trans HY.out)
      clear hA hB HX HY
      obtain ⟨f0, f1, f2, f3, f4, f5⟩ := x
      have c0 := hc 0 _ rfl
      have c1 := hc 1 _ rfl
      have c2 := hc 2 _ rfl
      have c3 := hc 3 _ rfl
      have c4 := hc 4 _ rfl
      have c5 := hc 5 _ rfl
      simp only [Nat.add_zero] at c0
      clear hc
      have e0 := hc' 0 _ rfl
      have e1 := hc' 1 _ rfl
      have e2 := hc' 2 _ rfl
      have e3 := hc' 3 _ rfl
      have e4 := hc' 4 _ rfl
      have e5 := hc' 5 _ rfl
      simp only [Nat.add_zero] at e0
      clear hc'
      go_wp2
      go_still_tail 8, (by kernel_rfl)
      change wpList _ _ _ _ _ wr.drew
      have hdr : Same w wr.drew := hd.drew
      generalize wr.drew = w2 at *
      go_wp2_with fail
      refine (eqNode_same f0 f1 f2 f3 f4 f5 _).mono ?_
      rintro e w3 ⟨rfl, hs3⟩
      have hss := hdr.trans hs3
      clear c0 e0 c1 e1 c2 e2 c3 e3 c4 e4 c5 e5 hs3 hdr hd
      go_wp2
      go_roundw
      case rel => exact ⟨k + 1, hlt, by go_num, hss⟩
      case measure => simp [intOf]; omega
    · go_wp2
      go_ret
      exact ⟨rfl, hd⟩
end Go.Proofs.YtjfmknhnplefnaaGreat
end

section
/-
  Rules: in memory, their copies and comparisons, alone and in lists.
-/
namespace Go.Proofs.YtjfmknhnplefnaaGreat
open Go.RowKit
set_option linter.unusedVariables false

/-- A rule as it lies in memory: its nodes' address and capacity besides. -/
abbrev MRule := TRule × Option Addr × Nat
def cRule (x : MRule) : List Value := [.int .i64 x.1.name, .int .i64 x.1.from_, .int .i64 x.1.to_, .int .i64 x.1.joined, .int .i64 x.1.rank, .int .i64 x.1.mode, .slice x.2.1 x.1.nodes.length x.2.2]
theorem cRule_len (x : MRule) : (cRule x).length = 7 := rfl
theorem cRule_one (x : MRule) : ∀ u ∈ cRule x, u.oneCell' = true := by
  intro u hu
  simp only [cRule, List.mem_cons, List.not_mem_nil, or_false] at hu
  rcases hu with rfl | rfl | rfl | rfl | rfl | rfl | rfl <;> rfl
theorem Tryz.infoRule : (Tryz.prog.info? 114).map (fun i => (i.zero, i.size, i.bytes)) = some (some (.agg #[.int .i64 0, .int .i64 0, .int .i64 0, .int .i64 0, .int .i64 0, .int .i64 0, .slice none 0 0]), 7, 72) := by kernel_rfl

def RulesAt (w : World) (A : Option Addr) (R : List TRule) : Prop := ∃ L : List MRule, L.map Prod.fst = R ∧ RecAt 7 cRule w A L ∧ ∀ x ∈ L, AtNode w x.2.1 x.1.nodes
/-- Rules of a call's own. -/
def OwnRules (w : World) (base : Nat) (v : Value) (R : List TRule) : Prop :=
  ∃ L : List MRule, L.map Prod.fst = R ∧ OwnR 114 7 cRule w base v L ∧ ∀ x ∈ L, OwnNode w base (.slice x.2.1 x.1.nodes.length x.2.2) x.1.nodes
def SmallR (R : List TRule) (n : Nat) : Prop := ∀ r ∈ R, r.nodes.length ≤ n
section
variable {w a b : World} {A : Option Addr} {R : List TRule} {base : Nat} {v : Value}
theorem RulesAt.same (h : RulesAt a A R) (hs : Same a b) : RulesAt b A R := by
  obtain ⟨L, h1, h2, h3⟩ := h
  exact ⟨L, h1, h2.same hs, fun x hx => (h3 x hx).same hs⟩
theorem RulesAt.at_ (h : RulesAt w A R) {k : Nat} (hk : k < R.length) :
    ∃ (b off : Nat) (r : TRule) (B : Option Addr) (d : Nat), A = some ⟨b, off, none⟩ ∧ (∀ j v, (cRule (r, B, d))[j]? = some v → w.cell? ⟨b, off + k * 7 + j, none⟩ = some v) ∧ Hid (R[k]? = some r) ∧ AtNode w B r.nodes ∧ b < w.heap.size := by
  obtain ⟨L, rfl, h2, h3⟩ := h
  rw [List.length_map] at hk
  obtain ⟨b, off, x, h4, h5, h6, h7⟩ := h2.at_ hk
  exact ⟨b, off, x.1, x.2.1, x.2.2, h4, h5, by show _ = _; rw [List.getElem?_map, h6.out]; rfl, h3 x (List.mem_of_getElem? h6.out), h7⟩
theorem OwnRules.same (h : OwnRules a base v R) (hs : Same a b) : OwnRules b base v R := by
  obtain ⟨L, h1, h2, h3⟩ := h
  exact ⟨L, h1, h2.same hs, fun x hx => (h3 x hx).same hs⟩
theorem OwnRules.put (h : OwnRules a base v R) (g j : Nat) (u : Value) (hg : g < base) : OwnRules (a.setCell ⟨g, j, none⟩ u) base v R := by
  obtain ⟨L, h1, h2, h3⟩ := h
  exact ⟨L, h1, h2.put g j u hg, fun x hx => (h3 x hx).put g j u hg⟩
theorem OwnRules.rebase {base' : Nat} (h : OwnRules a base v R) (hb : base' ≤ base) : OwnRules a base' v R := by
  obtain ⟨L, h1, h2, h3⟩ := h
  exact ⟨L, h1, h2.rebase hb, fun x hx => (h3 x hx).rebase hb⟩
theorem OwnRules.rules {n c : Nat} (h : OwnRules a base (.slice A n c) R) : RulesAt a A R := by
  obtain ⟨L, h1, h2, h3⟩ := h
  exact ⟨L, h1, OwnR.recs cRule_len h2, fun x hx => OwnR.recs cNode_len (h3 x hx)⟩
end
theorem OwnR.grownZ {T : Type} {s : Nat} {cells : T → List Value} {e : TypeId} {a b : World} {base g : Nat} {v : Value} {L : List T} (h : OwnR e s cells a base v L) (hg : a.grownBy b (some g)) (hlt : g < base) : OwnR e s cells b base v L :=
  OwnR.upd h (((Same.refl a).upd g (g + 1)).grown hg (Nat.le_refl _) (Nat.lt_succ_self _)) (OwnR.zn h) (.inr hlt)
/-- The facts of a rule's cells. -/
theorem rule_cells {w : World} {b o : Nat} {nm fr to jo ra mo : Int} {N : List TNode} {B : Option Addr} {d : Nat} (h : ∀ j v, (cRule (⟨nm, fr, to, jo, ra, mo, N⟩, B, d))[j]? = some v → w.cell? ⟨b, o + j, none⟩ = some v) :
    w.cell? ⟨b, o, none⟩ = some (.int .i64 nm) ∧ w.cell? ⟨b, o + 1, none⟩ = some (.int .i64 fr) ∧ w.cell? ⟨b, o + 2, none⟩ = some (.int .i64 to) ∧ w.cell? ⟨b, o + 3, none⟩ = some (.int .i64 jo) ∧ w.cell? ⟨b, o + 4, none⟩ = some (.int .i64 ra) ∧
      w.cell? ⟨b, o + 5, none⟩ = some (.int .i64 mo) ∧ w.cell? ⟨b, o + 6, none⟩ = some (.slice B N.length d) :=
  ⟨h 0 _ rfl, h 1 _ rfl, h 2 _ rfl, h 3 _ rfl, h 4 _ rfl, h 5 _ rfl, h 6 _ rfl⟩

theorem szRule_any (nm fr to jo ra mo : Int) (B : Option Addr) (n d : Nat) (l : Int) (w : World) (hn : n ≤ 9223372036854775807) (h0 : 0 ≤ l) (h1 : l ≤ 1048576) :
    Calls Tryz.prog 173 #[.agg #[.int .i64 nm, .int .i64 fr, .int .i64 to, .int .i64 jo, .int .i64 ra, .int .i64 mo, .slice B n d], .int .i64 l] w fun e w' => e = .returned (.int .i64 (if (n : Int) ≤ l then l - n else -1)) ∧ Same w w' := by
  by_cases h : (n : Int) ≤ l
  · go_enter Tryz.func173, Tryz.ntmps173
    go_wp2_with fail
    refine (szNodeS_any B n d l _ hn h0 h1).mono ?_
    rintro e w1 ⟨rfl, rfl⟩
    rw [if_pos h]
    go_wp2
    go_ret
    exact ⟨rfl, (Same.refl w).alloc _⟩
  · go_enter Tryz.func173, Tryz.ntmps173
    go_wp2_with fail
    refine (szNodeS_any B n d l _ hn h0 h1).mono ?_
    rintro e w1 ⟨rfl, rfl⟩
    rw [if_neg (show ¬ (n : Int) ≤ l by omega)]
    go_wp2
    go_ret
    exact ⟨rfl, (Same.refl w).alloc _⟩

/-- How many nodes the first k rules have. -/
def nodesTo (R : List TRule) : Nat → Nat
  | 0 => 0
  | k + 1 => nodesTo R k + (R.getD k default).nodes.length
theorem nodesTo_succ {R : List TRule} {k : Nat} {r : TRule} (h : R[k]? = some r) : nodesTo R (k + 1) = nodesTo R k + r.nodes.length := by simp [nodesTo, List.getD, h]
theorem nodesTo_mono (R : List TRule) {j k : Nat} (h : j ≤ k) : nodesTo R j ≤ nodesTo R k := by
  induction h with
  | refl => exact Nat.le_refl _
  | step _ ih => exact Nat.le_trans ih (by simp [nodesTo])
def szR (R : List TRule) : Nat := R.length + nodesTo R R.length
theorem szR_small {R : List TRule} {n : Nat} (h : szR R ≤ n) : SmallR R n := by
  intro r hr
  obtain ⟨k, hk, rfl⟩ := List.mem_iff_getElem.1 hr
  have h1 := nodesTo_succ (List.getElem?_eq_getElem hk)
  have h2 := nodesTo_mono R (show k + 1 ≤ R.length from hk)
  unfold szR at h
  omega

set_option maxHeartbeats 1000000 in
theorem szRuleS_yes (A : Option Addr) (c : Nat) (R : List TRule) (l : Int) (w : World) (hz : R.length ≤ 9223372036854775807) (hN : SmallR R 9223372036854775807) (h0 : 0 ≤ l) (h1 : l ≤ 1048576) (hS : (szR R : Int) ≤ l) (hA : RulesAt w A R) :
    Calls Tryz.prog 129 #[.slice A R.length c, .int .i64 l] w fun e w' => e = .returned (.int .i64 (l - szR R)) ∧ Same w w' := by
  have HSZ := Lib.hid hS
  clear hS
  by_cases hb : (R.length : Int) ≤ l
  · have hbn : ¬ l - (R.length : Int) < 0 := by omega
    go_enter Tryz.func129, Tryz.ntmps129
    go_wp2
    go_loopw [1, 5] (fun q i wr => ∃ k : Nat, k ≤ R.length ∧ i = .int .i64 k ∧ q = .int .i64 (l - R.length - nodesTo R k) ∧ 0 ≤ l - (R.length : Int) - nodesTo R k ∧ Same w wr) (fun _ i _ => R.length - (intOf i).toNat)
    case atStart => exact ⟨0, Nat.zero_le _, rfl, by simp [nodesTo], by simp [nodesTo]; omega, Same.refl _⟩
    case round =>
      obtain ⟨k, hk, rfl, rfl, hq, hs⟩ := hrel
      by_cases hlt : k < R.length
      · obtain ⟨b, off, r, B, d, rfl, hc, HX, hn, _⟩ := (hA.same hs).at_ hlt
        have hrn := hN r (List.mem_of_getElem? HX.out)
        have HS := Lib.hid (nodesTo_succ HX.out)
        have HM := Lib.hid (nodesTo_mono R (show k + 1 ≤ R.length from hlt))
        obtain ⟨nm, fr, to, jo, ra, mo, N⟩ := r
        obtain ⟨c0, c1, c2, c3, c4, c5, c6⟩ := rule_cells hc
        clear hc hA HX hn
        obtain ⟨s, hs'⟩ : ∃ s : Int, s = l - R.length - nodesTo R k := ⟨_, rfl⟩
        have hs1 : s ≤ 1048576 := by omega
        rw [← hs'] at hq ⊢
        have HSS := Lib.hid hs'
        clear hs'
        go_wp2_with fail
        refine (szRule_any nm fr to jo ra mo B N.length d s _ hrn hq hs1).mono ?_
        rintro e w1 ⟨rfl, t1⟩
        clear c0 c1 c2 c3 c4 c5 c6
        have hss := hs.trans t1
        by_cases hle : (N.length : Int) ≤ s
        · rw [if_pos hle]
          have hnn : ¬ s - (N.length : Int) < 0 := by omega
          go_wp2
          go_roundw
          case rel => exact ⟨k + 1, hlt, by go_num, by rw [HS.out, HSS.out]; go_num, by have := HS.out; have := HSS.out; omega, hss⟩
          case measure => simp [intOf]; omega
        · exact absurd (show (N.length : Int) ≤ s by have := HS.out; have := HSS.out; have := HM.out; have := HSZ.out; unfold szR at this; omega) hle
      · obtain rfl : k = R.length := by omega
        go_wp2
        go_ret
        exact ⟨ret_int (by unfold szR; omega), hs⟩
  · exact absurd (show (R.length : Int) ≤ l by have := HSZ.out; unfold szR at this; omega) hb

set_option maxHeartbeats 1000000 in
theorem szRuleS_no (A : Option Addr) (c : Nat) (R : List TRule) (l : Int) (w : World) (hz : R.length ≤ 9223372036854775807) (hN : SmallR R 9223372036854775807) (h0 : 0 ≤ l) (h1 : l ≤ 1048576) (hS : l < (szR R : Int)) (hA : RulesAt w A R) :
    Calls Tryz.prog 129 #[.slice A R.length c, .int .i64 l] w fun e w' => e = .returned (.int .i64 (-1)) ∧ Same w w' := by
  have HSZ := Lib.hid hS
  clear hS
  by_cases hb : (R.length : Int) ≤ l
  · have hbn : ¬ l - (R.length : Int) < 0 := by omega
    go_enter Tryz.func129, Tryz.ntmps129
    go_wp2
    go_loopw [1, 5] (fun q i wr => ∃ k : Nat, k ≤ R.length ∧ i = .int .i64 k ∧ q = .int .i64 (l - R.length - nodesTo R k) ∧ 0 ≤ l - (R.length : Int) - nodesTo R k ∧ Same w wr) (fun _ i _ => R.length - (intOf i).toNat)
    case atStart => exact ⟨0, Nat.zero_le _, rfl, by simp [nodesTo], by simp [nodesTo]; omega, Same.refl _⟩
    case round =>
      obtain ⟨k, hk, rfl, rfl, hq, hs⟩ := hrel
      by_cases hlt : k < R.length
      · obtain ⟨b, off, r, B, d, rfl, hc, HX, hn, _⟩ := (hA.same hs).at_ hlt
        have hrn := hN r (List.mem_of_getElem? HX.out)
        have HS := Lib.hid (nodesTo_succ HX.out)
        have HM := Lib.hid (nodesTo_mono R (show k + 1 ≤ R.length from hlt))
        obtain ⟨nm, fr, to, jo, ra, mo, N⟩ := r
        obtain ⟨c0, c1, c2, c3, c4, c5, c6⟩ := rule_cells hc
        clear hc hA HX hn
        obtain ⟨s, hs'⟩ : ∃ s : Int, s = l - R.length - nodesTo R k := ⟨_, rfl⟩
        have hs1 : s ≤ 1048576 := by omega
        rw [← hs'] at hq ⊢
        have HSS := Lib.hid hs'
        clear hs'
        go_wp2_with fail
        refine (szRule_any nm fr to jo ra mo B N.length d s _ hrn hq hs1).mono ?_
        rintro e w1 ⟨rfl, t1⟩
        clear c0 c1 c2 c3 c4 c5 c6
        have hss := hs.trans t1
        by_cases hle : (N.length : Int) ≤ s
        · rw [if_pos hle]
          have hnn : ¬ s - (N.length : Int) < 0 := by omega
          go_wp2
          go_roundw
          case rel => exact ⟨k + 1, hlt, by go_num, by rw [HS.out, HSS.out]; go_num, by have := HS.out; have := HSS.out; omega, hss⟩
          case measure => simp [intOf]; omega
        · rw [if_neg (show ¬ (N.length : Int) ≤ s by omega)]
          go_wp2
          go_ret
          exact ⟨rfl, hss⟩
      · obtain rfl : k = R.length := by omega
        exact absurd (show (szR R : Int) ≤ l by unfold szR; omega) (by have := HSZ.out; omega)
  · go_enter Tryz.func129, Tryz.ntmps129
    go_wp2
    go_ret
    exact ⟨rfl, Same.refl _⟩

/-- A rule handed back, its nodes new. -/
def RetRule (w : World) (r : TRule) (e : Ending) (w' : World) : Prop :=
  ∃ B d, e = .returned (.agg #[.int .i64 r.name, .int .i64 r.from_, .int .i64 r.to_, .int .i64 r.joined, .int .i64 r.rank, .int .i64 r.mode, .slice B r.nodes.length d]) ∧ OwnNode w' w.heap.size (.slice B r.nodes.length d) r.nodes ∧ Same w w'

set_option maxRecDepth 10000 in
set_option maxHeartbeats 1000000 in
theorem toRule_any (nm fr to jo ra mo : Int) (B : Option Addr) (d : Nat) (N : List TNode) (w : World) (hz : N.length ≤ 1048576) (hB : AtNode w B N) :
    Calls Tryz.prog 177 #[.agg #[.int .i64 nm, .int .i64 fr, .int .i64 to, .int .i64 jo, .int .i64 ra, .int .i64 mo, .slice B N.length d]] w (RetRule w ⟨nm, fr, to, jo, ra, mo, N⟩) := by
  go_enter Tryz.func177, Tryz.ntmps177
  go_wp2_with fail
  have h1 : BoxAt (((w.alloc (.cells #[.int .i64 nm, .int .i64 fr, .int .i64 to, .int .i64 jo, .int .i64 ra, .int .i64 mo, .slice B N.length d] 206)).alloc (.cells #[.int .i64 0, .int .i64 0, .int .i64 0, .int .i64 0, .int .i64 0, .int .i64 0, .slice none 0 0] 114)).alloc (.cells #[.int .i64 nm, .int .i64 fr, .int .i64 to, .int .i64 jo, .int .i64 ra, .int .i64 mo, .slice none 0 0] 114)) (w.heap.size) 206 [.int .i64 nm, .int .i64 fr, .int .i64 to, .int .i64 jo, .int .i64 ra, .int .i64 mo, .slice B N.length d] := by simpa using (BoxAt.alloc (BoxAt.alloc (BoxAt.new w 206 [.int .i64 nm, .int .i64 fr, .int .i64 to, .int .i64 jo, .int .i64 ra, .int .i64 mo, .slice B N.length d]) (.cells #[.int .i64 0, .int .i64 0, .int .i64 0, .int .i64 0, .int .i64 0, .int .i64 0, .slice none 0 0] 114)) (.cells #[.int .i64 nm, .int .i64 fr, .int .i64 to, .int .i64 jo, .int .i64 ra, .int .i64 mo, .slice none 0 0] 114))
  have h2 : BoxAt (((w.alloc (.cells #[.int .i64 nm, .int .i64 fr, .int .i64 to, .int .i64 jo, .int .i64 ra, .int .i64 mo, .slice B N.length d] 206)).alloc (.cells #[.int .i64 0, .int .i64 0, .int .i64 0, .int .i64 0, .int .i64 0, .int .i64 0, .slice none 0 0] 114)).alloc (.cells #[.int .i64 nm, .int .i64 fr, .int .i64 to, .int .i64 jo, .int .i64 ra, .int .i64 mo, .slice none 0 0] 114)) (w.heap.size + 1) 114 [.int .i64 0, .int .i64 0, .int .i64 0, .int .i64 0, .int .i64 0, .int .i64 0, .slice none 0 0] := by simpa using (BoxAt.alloc (BoxAt.new (w.alloc (.cells #[.int .i64 nm, .int .i64 fr, .int .i64 to, .int .i64 jo, .int .i64 ra, .int .i64 mo, .slice B N.length d] 206)) 114 [.int .i64 0, .int .i64 0, .int .i64 0, .int .i64 0, .int .i64 0, .int .i64 0, .slice none 0 0]) (.cells #[.int .i64 nm, .int .i64 fr, .int .i64 to, .int .i64 jo, .int .i64 ra, .int .i64 mo, .slice none 0 0] 114))
  have h3 : BoxAt (((w.alloc (.cells #[.int .i64 nm, .int .i64 fr, .int .i64 to, .int .i64 jo, .int .i64 ra, .int .i64 mo, .slice B N.length d] 206)).alloc (.cells #[.int .i64 0, .int .i64 0, .int .i64 0, .int .i64 0, .int .i64 0, .int .i64 0, .slice none 0 0] 114)).alloc (.cells #[.int .i64 nm, .int .i64 fr, .int .i64 to, .int .i64 jo, .int .i64 ra, .int .i64 mo, .slice none 0 0] 114)) (w.heap.size + 1 + 1) 114 [.int .i64 nm, .int .i64 fr, .int .i64 to, .int .i64 jo, .int .i64 ra, .int .i64 mo, .slice none 0 0] := by simpa using (BoxAt.new ((w.alloc (.cells #[.int .i64 nm, .int .i64 fr, .int .i64 to, .int .i64 jo, .int .i64 ra, .int .i64 mo, .slice B N.length d] 206)).alloc (.cells #[.int .i64 0, .int .i64 0, .int .i64 0, .int .i64 0, .int .i64 0, .int .i64 0, .slice none 0 0] 114)) 114 [.int .i64 nm, .int .i64 fr, .int .i64 to, .int .i64 jo, .int .i64 ra, .int .i64 mo, .slice none 0 0])
  have hs0 := (Same.alloc (Same.alloc (Same.alloc (Same.refl w) (.cells #[.int .i64 nm, .int .i64 fr, .int .i64 to, .int .i64 jo, .int .i64 ra, .int .i64 mo, .slice B N.length d] 206)) (.cells #[.int .i64 0, .int .i64 0, .int .i64 0, .int .i64 0, .int .i64 0, .int .i64 0, .slice none 0 0] 114)) (.cells #[.int .i64 nm, .int .i64 fr, .int .i64 to, .int .i64 jo, .int .i64 ra, .int .i64 mo, .slice none 0 0] 114))
  generalize (((w.alloc (.cells #[.int .i64 nm, .int .i64 fr, .int .i64 to, .int .i64 jo, .int .i64 ra, .int .i64 mo, .slice B N.length d] 206)).alloc (.cells #[.int .i64 0, .int .i64 0, .int .i64 0, .int .i64 0, .int .i64 0, .int .i64 0, .slice none 0 0] 114)).alloc (.cells #[.int .i64 nm, .int .i64 fr, .int .i64 to, .int .i64 jo, .int .i64 ra, .int .i64 mo, .slice none 0 0] 114)) = w0 at *
  have n0 := hs0.size
  have nn := h3.lt
  have a0 := h1.cell 6 rfl
  refine (toNodeS_any B d N _ hz (hB.same hs0)).mono ?_
  rintro e w1 ⟨rfl, o, hs1⟩
  have S1 := hs0.trans hs1
  have m1 := hs1.size
  clear a0
  replace h1 := h1.same hs1
  replace h2 := h2.same hs1
  replace h3 := h3.same hs1
  replace o := OwnR.rebase o (by omega : w0.heap.size ≤ _)
  have d0_0 := h3.cell 6 rfl
  have f0_0 := h3.frozen 6
  replace h1 := h1.other (k := (w.heap.size + 1 + 1)) (j := 6) (.slice (some ⟨w0.heap.size, 0, none⟩) N.length N.length) (by omega)
  replace h2 := h2.other (k := (w.heap.size + 1 + 1)) (j := 6) (.slice (some ⟨w0.heap.size, 0, none⟩) N.length N.length) (by omega)
  replace h3 := h3.set 6 (.slice (some ⟨w0.heap.size, 0, none⟩) N.length N.length)
  replace o := OwnR.put o (w.heap.size + 1 + 1) 6 (.slice (some ⟨w0.heap.size, 0, none⟩) N.length N.length) (by omega)
  replace S1 := S1.setCell (p := ⟨(w.heap.size + 1 + 1), 6, none⟩) (by first | (simp; done) | (simp; omega) | omega) (.slice (some ⟨w0.heap.size, 0, none⟩) N.length N.length)
  have q1 : w0.heap.size ≤ (w1.setCell ⟨(w.heap.size + 1 + 1), 6, none⟩ (.slice (some ⟨w0.heap.size, 0, none⟩) N.length N.length)).heap.size := by first | (simp; done) | (simp; omega) | omega
  have o0 := h3.cell 0 rfl
  have o1 := h3.cell 1 rfl
  have o2 := h3.cell 2 rfl
  have o3 := h3.cell 3 rfl
  have o4 := h3.cell 4 rfl
  have o5 := h3.cell 5 rfl
  have o6 := h3.cell 6 rfl
  have r0 := h2.cell 0 rfl
  have g0 := h2.frozen 0
  have r1 := h2.cell 1 rfl
  have g1 := h2.frozen 1
  have r2 := h2.cell 2 rfl
  have g2 := h2.frozen 2
  have r3 := h2.cell 3 rfl
  have g3 := h2.frozen 3
  have r4 := h2.cell 4 rfl
  have g4 := h2.frozen 4
  have r5 := h2.cell 5 rfl
  have g5 := h2.frozen 5
  have r6 := h2.cell 6 rfl
  have g6 := h2.frozen 6
  have hx := (((((((h2.set 0 (.int .i64 nm)).set 1 (.int .i64 fr)).set 2 (.int .i64 to)).set 3 (.int .i64 jo)).set 4 (.int .i64 ra)).set 5 (.int .i64 mo)).set 6 (.slice (some ⟨w0.heap.size, 0, none⟩) N.length N.length))
  have x0 := hx.cell 0 rfl
  have x1 := hx.cell 1 rfl
  have x2 := hx.cell 2 rfl
  have x3 := hx.cell 3 rfl
  have x4 := hx.cell 4 rfl
  have x5 := hx.cell 5 rfl
  have x6 := hx.cell 6 rfl
  replace o := OwnR.put o (w.heap.size + 1) 0 (.int .i64 nm) (by omega)
  replace o := OwnR.put o (w.heap.size + 1) 1 (.int .i64 fr) (by omega)
  replace o := OwnR.put o (w.heap.size + 1) 2 (.int .i64 to) (by omega)
  replace o := OwnR.put o (w.heap.size + 1) 3 (.int .i64 jo) (by omega)
  replace o := OwnR.put o (w.heap.size + 1) 4 (.int .i64 ra) (by omega)
  replace o := OwnR.put o (w.heap.size + 1) 5 (.int .i64 mo) (by omega)
  replace o := OwnR.put o (w.heap.size + 1) 6 (.slice (some ⟨w0.heap.size, 0, none⟩) N.length N.length) (by omega)
  have ST := (((((((S1.setCell (p := ⟨(w.heap.size + 1), 0, none⟩) (by first | (simp; done) | (simp; omega) | omega) (.int .i64 nm)).setCell (p := ⟨(w.heap.size + 1), 1, none⟩) (by first | (simp; done) | (simp; omega) | omega) (.int .i64 fr)).setCell (p := ⟨(w.heap.size + 1), 2, none⟩) (by first | (simp; done) | (simp; omega) | omega) (.int .i64 to)).setCell (p := ⟨(w.heap.size + 1), 3, none⟩) (by first | (simp; done) | (simp; omega) | omega) (.int .i64 jo)).setCell (p := ⟨(w.heap.size + 1), 4, none⟩) (by first | (simp; done) | (simp; omega) | omega) (.int .i64 ra)).setCell (p := ⟨(w.heap.size + 1), 5, none⟩) (by first | (simp; done) | (simp; omega) | omega) (.int .i64 mo)).setCell (p := ⟨(w.heap.size + 1), 6, none⟩) (by first | (simp; done) | (simp; omega) | omega) (.slice (some ⟨w0.heap.size, 0, none⟩) N.length N.length))
  clear hx h1 h2 h3
  go_wp2
  exact bodyPost_ret (v := .agg #[.int .i64 nm, .int .i64 fr, .int .i64 to, .int .i64 jo, .int .i64 ra, .int .i64 mo, .slice (some ⟨w0.heap.size, 0, none⟩) N.length N.length]) (by simp [results, Tryz.results177, go_sem, x0, x1, x2, x3, x4, x5, x6]) rfl ⟨_, _, rfl, OwnR.rebase o (by omega), ST⟩

theorem map_fst_take {α β : Type} {L : List (α × β)} {R : List α} (h : L.map Prod.fst = R) (k : Nat) : (L.take k).map Prod.fst = R.take k := by rw [← h, List.map_take]
theorem set_mid {α : Type} (M : List α) (z y : α) (n : Nat) : (M ++ List.replicate (n + 1) z).set M.length y = (M ++ [y]) ++ List.replicate n z := by
  rw [List.set_append_right _ _ (by omega), List.replicate_succ, Nat.sub_self, List.set_cons_zero]
  simp

set_option maxRecDepth 10000 in
set_option maxHeartbeats 1000000 in
theorem toRuleS_any (A : Option Addr) (c : Nat) (R : List TRule) (w : World) (hz : R.length ≤ 1048576) (hN : SmallR R 1048576) (hA : RulesAt w A R) :
    Calls Tryz.prog 141 #[.slice A R.length c] w fun e w' => e = .returned (.slice (some ⟨w.heap.size, 0, none⟩) R.length R.length) ∧ OwnRules w' w.heap.size (.slice (some ⟨w.heap.size, 0, none⟩) R.length R.length) R ∧ Same w w' := by
  obtain ⟨i0, hi, hz0, hz1, hz2⟩ := info_parts Tryz.infoRule
  go_enter Tryz.func141, Tryz.ntmps141
  go_wp2_with (at_make; refine wpList_make_full _ rfl _ _ 24 rfl w.heap.size 114 i0 (.agg #[.int .i64 0, .int .i64 0, .int .i64 0, .int .i64 0, .int .i64 0, .int .i64 0, .slice none 0 0]) 7 Tryz.underlying24 hi hz0 hz1 _ _ _ _ R.length rfl rfl rfl rfl ?b2 ?b3 ?b4 ?_)
  case b2 => rw [hz2]; omega
  case b3 => unfold maxLen; omega
  case b4 => exact Nat.le_refl _
  intro w1 hown hgrow
  have hs1 : Same w w1 := (Same.refl w).grown hgrow (fun g h => by cases h)
  have hown1 : OwnR 114 7 cRule w1 w.heap.size (.slice (some ⟨w.heap.size, 0, none⟩) R.length R.length) (List.replicate R.length ((default : TRule), (none : Option Addr), 0)) := by
    have hm := madeCells_flat (s := 7) (cells := cRule) (cRule ((default : TRule), (none : Option Addr), 0)) ((default : TRule), (none : Option Addr), 0) rfl rfl (by omega) R.length
    show World.ownsRow _ _ _ _ _ _ _
    rw [List.length_replicate, ← hm]
    exact hown
  have hw1 := World.ownsRow.lt hown1 w.heap.size rfl
  clear hown hgrow
  go_wp2
  go_loopw [4] (fun i wr => ∃ (k : Nat) (M : List MRule), k ≤ R.length ∧ i = .int .i64 k ∧ Hid (M.map Prod.fst = R.take k) ∧ Hid (M.length = k) ∧
      OwnR 114 7 cRule wr w.heap.size (.slice (some ⟨w.heap.size, 0, none⟩) R.length R.length) (M ++ List.replicate (R.length - k) ((default : TRule), (none : Option Addr), 0)) ∧
      (∀ x ∈ M, OwnNode wr (w.heap.size + 1) (.slice x.2.1 x.1.nodes.length x.2.2) x.1.nodes) ∧ Same w wr ∧ w.heap.size < wr.heap.size) (fun i _ => R.length - (intOf i).toNat)
  case atStart => exact ⟨0, [], Nat.zero_le _, rfl, by simp [Hid], rfl, by simpa using hown1, fun x hx => (List.not_mem_nil hx).elim, hs1, hw1.2⟩
  case round =>
    obtain ⟨k, M, hk, rfl, HM, HL, hown, hnod, hs, hlw⟩ := hrel
    clear hown1
    by_cases hlt : k < R.length
    · obtain ⟨b, off, r, B, d, rfl, hc, HX, hn, _⟩ := (hA.same hs).at_ hlt
      have hrn := hN r (List.mem_of_getElem? HX.out)
      obtain ⟨nm, fr, to, jo, ra, mo, N⟩ := r
      obtain ⟨c0, c1, c2, c3, c4, c5, c6⟩ := rule_cells hc
      clear hc hA
      go_wp2_with fail
      refine (toRule_any nm fr to jo ra mo B d N _ hrn hn).mono ?_
      rintro e w2 ⟨B2, dd, rfl, ho2, hs2⟩
      have hn2 := hs2.size
      have hown2 := hown.same hs2
      have hss := hs.trans hs2
      have hnod2 : ∀ x ∈ M ++ [((⟨nm, fr, to, jo, ra, mo, N⟩ : TRule), B2, dd)], OwnNode w2 (w.heap.size + 1) (.slice x.2.1 x.1.nodes.length x.2.2) x.1.nodes := by
        intro x hx
        rcases List.mem_append.1 hx with hx | hx
        · exact (hnod x hx).same hs2
        · simp at hx; subst hx; exact OwnR.rebase ho2 (by omega)
      clear hown hs c0 c1 c2 c3 c4 c5 c6 hnod ho2
      obtain ⟨m, hm⟩ : ∃ m, R.length - k = m + 1 := ⟨R.length - k - 1, by omega⟩
      rw [hm] at hown2
      have hat : (M ++ List.replicate (m + 1) ((default : TRule), (none : Option Addr), 0))[k]? = some ((default : TRule), (none : Option Addr), 0) := by
        rw [List.getElem?_append_right (by rw [HL.out]; omega), HL.out]; simp
      obtain ⟨_, _, hd, hf⟩ := hown2.atg cRule_len hat
      have hst := hown2.set cRule_len (k := k) (by simp [HL.out]) ((⟨nm, fr, to, jo, ra, mo, N⟩ : TRule), B2, dd)
      have hmm : R.length - (k + 1) = m := by omega
      have HMM := Lib.hid hmm
      have HNEW := Lib.hid (show (M ++ List.replicate (m + 1) ((default : TRule), (none : Option Addr), 0)).set k ((⟨nm, fr, to, jo, ra, mo, N⟩ : TRule), B2, dd) = (M ++ [((⟨nm, fr, to, jo, ra, mo, N⟩ : TRule), B2, dd)]) ++ List.replicate (R.length - (k + 1)) ((default : TRule), (none : Option Addr), 0) by
        rw [hmm, ← set_mid, HL.out])
      have HH := Lib.hid hm
      clear hown2 hat hm hmm
      have d0 := hd 0 _ rfl
      have d1 := hd 1 _ rfl
      have d2 := hd 2 _ rfl
      have d3 := hd 3 _ rfl
      have d4 := hd 4 _ rfl
      have d5 := hd 5 _ rfl
      have d6 := hd 6 _ rfl
      simp only [Nat.add_zero] at d0
      clear hd
      have hf0 := hf (k * 7)
      have hf1 := hf (k * 7 + 1)
      have hf2 := hf (k * 7 + 2)
      have hf3 := hf (k * 7 + 3)
      have hf4 := hf (k * 7 + 4)
      have hf5 := hf (k * 7 + 5)
      have hf6 := hf (k * 7 + 6)
      clear hf
      go_wp2
      go_roundw
      case rel =>
        refine ⟨k + 1, M ++ [((⟨nm, fr, to, jo, ra, mo, N⟩ : TRule), B2, dd)], hlt, by go_num, ?_, by show _ = _; simp [HL.out], ?_, ?_, hss.grown hst.out.2 (fun g hg => by injection hg with hg; omega), by simp; omega⟩
        · show _ = _
          rw [List.map_append, HM.out, List.take_add_one, HX.out]; rfl
        · have := hst.out.1
          rw [HNEW.out] at this
          exact this
        · intro x hx
          exact OwnR.grownZ (hnod2 x hx) hst.out.2 (Nat.lt_succ_self _)
      case measure => simp [intOf]; omega
    · obtain rfl : k = R.length := by omega
      go_wp2
      go_ret
      refine ⟨rfl, ⟨M, by have := HM.out; rwa [List.take_length] at this, ?_, fun x hx => OwnR.rebase (hnod x hx) (by omega)⟩, hs⟩
      simpa using hown

theorem eqRule_same (nm fr to jo ra mo : Int) (B B' : Option Addr) (d d' : Nat) (N : List TNode) (w : World) (hz : N.length ≤ 9223372036854775807) (hB : AtNode w B N) (hB' : AtNode w B' N) :
    Calls Tryz.prog 182 #[.agg #[.int .i64 nm, .int .i64 fr, .int .i64 to, .int .i64 jo, .int .i64 ra, .int .i64 mo, .slice B N.length d], .agg #[.int .i64 nm, .int .i64 fr, .int .i64 to, .int .i64 jo, .int .i64 ra, .int .i64 mo, .slice B' N.length d']] w fun e w' =>
      e = .returned (.bool true) ∧ Same w w' := by
  have b0 : (nm != nm) = false := by simp
  have b1 : (fr != fr) = false := by simp
  have b2 : (to != to) = false := by simp
  have b3 : (jo != jo) = false := by simp
  have b4 : (ra != ra) = false := by simp
  have b5 : (mo != mo) = false := by simp
  go_enter Tryz.func182, Tryz.ntmps182
  go_wp2_with fail
  refine (eqNodeS_same B B' d d' N _ hz (hB.same (((Same.refl w).alloc _).alloc _)) (hB'.same (((Same.refl w).alloc _).alloc _))).mono ?_
  rintro e w1 ⟨rfl, hs1⟩
  go_wp2
  go_ret
  exact ⟨rfl, (((Same.refl w).alloc _).alloc _).trans hs1⟩

set_option maxRecDepth 10000 in
set_option maxHeartbeats 1000000 in
theorem eqRuleS_same (A A' : Option Addr) (c c' : Nat) (R : List TRule) (w : World) (hz : R.length ≤ 9223372036854775807) (hN : SmallR R 9223372036854775807) (hA : RulesAt w A R) (hA' : RulesAt w A' R) :
    Calls Tryz.prog 146 #[.slice A R.length c, .slice A' R.length c'] w fun e w' => e = .returned (.bool true) ∧ Same w w' := by
  have hne : ((R.length : Int) != (R.length : Int)) = false := by simp
  go_enter Tryz.func146, Tryz.ntmps146
  go_wp2
  go_loopw [5] (fun i wr => ∃ k : Nat, k ≤ R.length ∧ i = .int .i64 k ∧ Same w wr) (fun i _ => R.length - (intOf i).toNat)
  case atStart => exact ⟨0, Nat.zero_le _, rfl, Same.refl _⟩
  case round =>
    obtain ⟨k, hk, rfl, hd⟩ := hrel
    by_cases hlt : k < R.length
    · obtain ⟨b, off, r, B, d, rfl, hc, HX, hn, _⟩ := (hA.same hd).at_ hlt
      obtain ⟨b', off', r', B', d', rfl, hc', HY, hn', _⟩ := (hA'.same hd).at_ hlt
      obtain rfl : r = r' := Option.some.inj (HX.out.symm.trans HY.out)
      have hrn := hN r (List.mem_of_getElem? HX.out)
      obtain ⟨nm, fr, to, jo, ra, mo, N⟩ := r
      obtain ⟨c0, c1, c2, c3, c4, c5, c6⟩ := rule_cells hc
      obtain ⟨e0, e1, e2, e3, e4, e5, e6⟩ := rule_cells hc'
      clear hA hA' HX HY hc hc'
      go_wp2
      go_still_tail 8, (by kernel_rfl)
      change wpList _ _ _ _ _ wr.drew
      have hdr : Same w wr.drew := hd.drew
      have hnd : AtNode wr.drew B N := hn.same (Same.refl _).drew
      have hnd' : AtNode wr.drew B' N := hn'.same (Same.refl _).drew
      generalize wr.drew = w2 at *
      go_wp2_with fail
      refine (eqRule_same nm fr to jo ra mo B B' d d' N _ hrn hnd hnd').mono ?_
      rintro e w3 ⟨rfl, hs3⟩
      have hss := hdr.trans hs3
      clear c0 c1 c2 c3 c4 c5 c6 e0 e1 e2 e3 e4 e5 e6 hs3 hdr hd
      go_wp2
      go_roundw
      case rel => exact ⟨k + 1, hlt, by go_num, hss⟩
      case measure => simp [intOf]; omega
    · go_wp2
      go_ret
      exact ⟨rfl, hd⟩
end Go.Proofs.YtjfmknhnplefnaaGreat
end

