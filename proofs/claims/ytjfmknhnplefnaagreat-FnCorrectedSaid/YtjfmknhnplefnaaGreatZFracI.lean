/- Joined of FracI, FracI2: what is proved stands ahead of each part. -/
import Derived.Test.YtjfmknhnplefnaaGreatZFracS
import Derived.BigRegion
import Derived.Deep.RegionHeld3
import Derived.Test.YtjfmknhnplefnaaGreatZPlain

section
/-
  Fractions reckoned with (the program's side).
-/
namespace Go.Proofs.YtjfmknhnplefnaaGreat
open Go.RowKit
set_option linter.unusedVariables false
set_option linter.unusedSimpArgs false

set_option maxRecDepth 10000 in
set_option maxHeartbeats 2000000 in
theorem reduced_any (n d : Int) (w : World) (hn : n.natAbs ≤ 4611686018427387904) (hd : d.natAbs ≤ 4611686018427387904) (h0 : d ≠ 0) :
    Calls Tryz.prog 62 #[.int .i64 n, .int .i64 d] w fun e w' => e = .returned (.tuple #[.agg #[.int .i64 (lowest n d).1, .int .i64 (lowest n d).2.1], .bool (lowest n d).2.2]) ∧ Same w w' := by
  by_cases hs : d < 0
  · obtain ⟨p, hp⟩ : ∃ p, p = -n := ⟨_, rfl⟩
    obtain ⟨q, hq⟩ : ∃ q, q = -d := ⟨_, rfl⟩
    obtain ⟨g, hg⟩ : ∃ g, g = Int.gcd p q := ⟨_, rfl⟩
    have hp' : p.natAbs ≤ 4611686018427387904 := by omega
    have hq' : 0 ≤ q ∧ q ≤ 4611686018427387904 := by omega
    have hg0 : 0 < g := by rw [hg]; exact Int.gcd_pos_of_ne_zero_right _ (by omega)
    have HR := Lib.hid (show lowest n d = if fracOk (p.tdiv g) (q.tdiv g) = true then (p.tdiv g, q.tdiv g, true) else (0, 0, false) by rw [hg, hp, hq]; simp [lowest, hs])
    have ha := tdiv_abs p g
    have hb := tdiv_abs q g
    obtain ⟨a, haa⟩ : ∃ a, a = p.tdiv g := ⟨_, rfl⟩
    obtain ⟨b, hbb⟩ : ∃ b, b = q.tdiv g := ⟨_, rfl⟩
    have HG := Lib.hid (show ((Int.gcd p q : Nat) : Int) = (g : Int) by rw [hg])
    have eA := Lib.hid haa
    have eB := Lib.hid hbb
    rw [← haa] at ha HR
    rw [← hbb] at hb HR
    have HP := Lib.hid hp
    have HQ := Lib.hid hq
    clear hg haa hbb hp hq
    go_enter Tryz.func62, Tryz.ntmps62
    go_wp2_with fail
    rw [← HP.out, ← HQ.out]
    refine (gcd_any p q _ (by omega) (by omega)).mono ?_
    rw [HG.out]
    rintro e w4 ⟨rfl, hd4⟩
    have hsz4 : w4.heap.size = w.heap.size + 1 := by rw [hd4.size]; simp
    have h0x : BoxAt w4 w.heap.size 101 [.int .i64 0, .int .i64 0] := (BoxAt.new w 101 [.int .i64 0, .int .i64 0]).drew hd4
    have S0 : Same w w4 := ((Same.refl w).alloc (.cells #[.int .i64 0, .int .i64 0] 101)).drewed hd4
    clear hd4
    have g0 : ((g : Int) == 0) = false := by simp; omega
    have ea := eA.out.symm
    have eb := eB.out.symm
    go_wp2_with fail
    go_region
    have h1 : BoxAt (w4.alloc (.cells #[.int .i64 a, .int .i64 b] 101)).drew w.heap.size 101 [.int .i64 0, .int .i64 0] := (h0x.alloc (.cells #[.int .i64 a, .int .i64 b] 101)).same (Same.refl _).drew
    have h2 : BoxAt (w4.alloc (.cells #[.int .i64 a, .int .i64 b] 101)).drew w4.heap.size 101 [.int .i64 a, .int .i64 b] := (BoxAt.new w4 101 [.int .i64 a, .int .i64 b]).same (Same.refl _).drew
    have S1 := (S0.alloc (.cells #[.int .i64 a, .int .i64 b] 101)).drew
    generalize (w4.alloc (.cells #[.int .i64 a, .int .i64 b] 101)).drew = w1 at *
    rw [hsz4] at h2
    clear S0 h0x
    have y0 := h2.cell 0 rfl
    have y1 := h2.cell 1 rfl
    have yL := h2.lt
    go_wp2_with fail
    refine (iFracOk_any a b _).mono ?_
    rintro e w2 ⟨rfl, hs2⟩
    replace h1 := h1.same hs2
    replace h2 := h2.same hs2
    have S2 := S1.trans hs2
    clear hs2 S1 y0 y1 yL
    have y0 := h2.cell 0 rfl
    have y1 := h2.cell 1 rfl
    have yL := h2.lt
    have x0 := h1.cell 0 rfl
    have x1 := h1.cell 1 rfl
    have xf0 := h1.frozen 0
    have xf1 := h1.frozen 1
    have xL := h1.lt
    cases hk : fracOk a b
    · have HV := Lib.hid (show lowest n d = (0, 0, false) by rw [HR.out, hk]; rfl)
      clear hk
      go_wp2
      have h9 := (h1.set 0 (.int .i64 0)).set 1 (.int .i64 0)
      have S9 := (S2.setCell (p := ⟨w.heap.size, 0, none⟩) (Nat.le_refl _) (.int .i64 0)).setCell (p := ⟨w.heap.size, 1, none⟩) (Nat.le_refl _) (.int .i64 0)
      generalize (w2.setCell ⟨w.heap.size, 0, none⟩ (.int .i64 0)).setCell ⟨w.heap.size, 1, none⟩ (.int .i64 0) = w9 at *
      have z0 := h9.cell 0 rfl
      have z1 := h9.cell 1 rfl
      exact bodyPost_ret (v := .tuple #[.agg #[.int .i64 0, .int .i64 0], .bool false]) (by simp [results, Tryz.results62, go_sem, z0, z1]) rfl ⟨by rw [HV.out], S9⟩
    · have HV := Lib.hid (show lowest n d = (a, b, true) by rw [HR.out, hk]; rfl)
      clear hk
      go_wp2
      have h9 := (h1.set 0 (.int .i64 a)).set 1 (.int .i64 b)
      have S9 := (S2.setCell (p := ⟨w.heap.size, 0, none⟩) (Nat.le_refl _) (.int .i64 a)).setCell (p := ⟨w.heap.size, 1, none⟩) (Nat.le_refl _) (.int .i64 b)
      generalize (w2.setCell ⟨w.heap.size, 0, none⟩ (.int .i64 a)).setCell ⟨w.heap.size, 1, none⟩ (.int .i64 b) = w9 at *
      have z0 := h9.cell 0 rfl
      have z1 := h9.cell 1 rfl
      exact bodyPost_ret (v := .tuple #[.agg #[.int .i64 a, .int .i64 b], .bool true]) (by simp [results, Tryz.results62, go_sem, z0, z1]) rfl ⟨by rw [HV.out], S9⟩
  · obtain ⟨p, hp⟩ : ∃ p, p = n := ⟨_, rfl⟩
    obtain ⟨q, hq⟩ : ∃ q, q = d := ⟨_, rfl⟩
    obtain ⟨g, hg⟩ : ∃ g, g = Int.gcd p q := ⟨_, rfl⟩
    have hp' : p.natAbs ≤ 4611686018427387904 := by omega
    have hq' : 0 ≤ q ∧ q ≤ 4611686018427387904 := by omega
    have hg0 : 0 < g := by rw [hg]; exact Int.gcd_pos_of_ne_zero_right _ (by omega)
    have HR := Lib.hid (show lowest n d = if fracOk (p.tdiv g) (q.tdiv g) = true then (p.tdiv g, q.tdiv g, true) else (0, 0, false) by rw [hg, hp, hq]; simp [lowest, hs])
    have ha := tdiv_abs p g
    have hb := tdiv_abs q g
    obtain ⟨a, haa⟩ : ∃ a, a = p.tdiv g := ⟨_, rfl⟩
    obtain ⟨b, hbb⟩ : ∃ b, b = q.tdiv g := ⟨_, rfl⟩
    have HG := Lib.hid (show ((Int.gcd p q : Nat) : Int) = (g : Int) by rw [hg])
    have eA := Lib.hid haa
    have eB := Lib.hid hbb
    rw [← haa] at ha HR
    rw [← hbb] at hb HR
    have HP := Lib.hid hp
    have HQ := Lib.hid hq
    clear hg haa hbb hp hq
    go_enter Tryz.func62, Tryz.ntmps62
    go_wp2_with fail
    obtain rfl := HP.out
    obtain rfl := HQ.out
    refine (gcd_any p q _ (by omega) (by omega)).mono ?_
    rw [HG.out]
    rintro e w4 ⟨rfl, hd4⟩
    have hsz4 : w4.heap.size = w.heap.size + 1 := by rw [hd4.size]; simp
    have h0x : BoxAt w4 w.heap.size 101 [.int .i64 0, .int .i64 0] := (BoxAt.new w 101 [.int .i64 0, .int .i64 0]).drew hd4
    have S0 : Same w w4 := ((Same.refl w).alloc (.cells #[.int .i64 0, .int .i64 0] 101)).drewed hd4
    clear hd4
    have g0 : ((g : Int) == 0) = false := by simp; omega
    have ea := eA.out.symm
    have eb := eB.out.symm
    go_wp2_with fail
    go_region
    have h1 : BoxAt (w4.alloc (.cells #[.int .i64 a, .int .i64 b] 101)).drew w.heap.size 101 [.int .i64 0, .int .i64 0] := (h0x.alloc (.cells #[.int .i64 a, .int .i64 b] 101)).same (Same.refl _).drew
    have h2 : BoxAt (w4.alloc (.cells #[.int .i64 a, .int .i64 b] 101)).drew w4.heap.size 101 [.int .i64 a, .int .i64 b] := (BoxAt.new w4 101 [.int .i64 a, .int .i64 b]).same (Same.refl _).drew
    have S1 := (S0.alloc (.cells #[.int .i64 a, .int .i64 b] 101)).drew
    generalize (w4.alloc (.cells #[.int .i64 a, .int .i64 b] 101)).drew = w1 at *
    rw [hsz4] at h2
    clear S0 h0x
    have y0 := h2.cell 0 rfl
    have y1 := h2.cell 1 rfl
    have yL := h2.lt
    go_wp2_with fail
    refine (iFracOk_any a b _).mono ?_
    rintro e w2 ⟨rfl, hs2⟩
    replace h1 := h1.same hs2
    replace h2 := h2.same hs2
    have S2 := S1.trans hs2
    clear hs2 S1 y0 y1 yL
    have y0 := h2.cell 0 rfl
    have y1 := h2.cell 1 rfl
    have yL := h2.lt
    have x0 := h1.cell 0 rfl
    have x1 := h1.cell 1 rfl
    have xf0 := h1.frozen 0
    have xf1 := h1.frozen 1
    have xL := h1.lt
    cases hk : fracOk a b
    · have HV := Lib.hid (show lowest p q = (0, 0, false) by rw [HR.out, hk]; rfl)
      clear hk
      go_wp2
      have h9 := (h1.set 0 (.int .i64 0)).set 1 (.int .i64 0)
      have S9 := (S2.setCell (p := ⟨w.heap.size, 0, none⟩) (Nat.le_refl _) (.int .i64 0)).setCell (p := ⟨w.heap.size, 1, none⟩) (Nat.le_refl _) (.int .i64 0)
      generalize (w2.setCell ⟨w.heap.size, 0, none⟩ (.int .i64 0)).setCell ⟨w.heap.size, 1, none⟩ (.int .i64 0) = w9 at *
      have z0 := h9.cell 0 rfl
      have z1 := h9.cell 1 rfl
      exact bodyPost_ret (v := .tuple #[.agg #[.int .i64 0, .int .i64 0], .bool false]) (by simp [results, Tryz.results62, go_sem, z0, z1]) rfl ⟨by rw [HV.out], S9⟩
    · have HV := Lib.hid (show lowest p q = (a, b, true) by rw [HR.out, hk]; rfl)
      clear hk
      go_wp2
      have h9 := (h1.set 0 (.int .i64 a)).set 1 (.int .i64 b)
      have S9 := (S2.setCell (p := ⟨w.heap.size, 0, none⟩) (Nat.le_refl _) (.int .i64 a)).setCell (p := ⟨w.heap.size, 1, none⟩) (Nat.le_refl _) (.int .i64 b)
      generalize (w2.setCell ⟨w.heap.size, 0, none⟩ (.int .i64 a)).setCell ⟨w.heap.size, 1, none⟩ (.int .i64 b) = w9 at *
      have z0 := h9.cell 0 rfl
      have z1 := h9.cell 1 rfl
      exact bodyPost_ret (v := .tuple #[.agg #[.int .i64 a, .int .i64 b], .bool true]) (by simp [results, Tryz.results62, go_sem, z0, z1]) rfl ⟨by rw [HV.out], S9⟩

set_option maxRecDepth 10000 in
set_option maxHeartbeats 2000000 in
theorem iFracNew_any (n d : Int) (w : World) :
    Calls Tryz.prog 119 #[.int .i64 n, .int .i64 d] w fun e w' => e = .returned (.tuple #[.agg #[.int .i64 (fracNew n d).1, .int .i64 (fracNew n d).2.1], .bool (fracNew n d).2.2]) ∧ Same w w' := by
  have HR := Lib.hid (show fracNew n d = if d = 0 || !inB n (-1000000000000) 1000000000000 || !inB d (-1000000000000) 1000000000000 then (0, 0, false) else lowest n d from rfl)
  by_cases h0 : d = 0
  · have HV := Lib.hid (show fracNew n d = (0, 0, false) by rw [HR.out]; simp [h0])
    have b0 : (d == 0) = true := by simp [h0]
    clear h0
    go_enter Tryz.func119, Tryz.ntmps119
    go_wp2
    have h1 : BoxAt (w.alloc (.cells #[.int .i64 0, .int .i64 0] 101)) (w.heap.size) 101 [.int .i64 0, .int .i64 0] := by simpa using (BoxAt.new w 101 [.int .i64 0, .int .i64 0])
    have hs0 := (Same.alloc (Same.refl w) (.cells #[.int .i64 0, .int .i64 0] 101))
    generalize (w.alloc (.cells #[.int .i64 0, .int .i64 0] 101)) = w0 at *
    have z0 := h1.cell 0 rfl
    have z1 := h1.cell 1 rfl
    exact bodyPost_ret (v := .tuple #[.agg #[.int .i64 0, .int .i64 0], .bool false]) (by simp [results, Tryz.results119, go_sem, z0, z1]) rfl ⟨by rw [HV.out], hs0⟩
  have b0 : (d == 0) = false := by simp [h0]
  cases m1 : inB n (-1000000000000) 1000000000000
  · have HV := Lib.hid (show fracNew n d = (0, 0, false) by rw [HR.out]; simp [m1])
    have M1 := Lib.hid m1
    clear m1
    go_enter Tryz.func119, Tryz.ntmps119
    go_wp2_with (go_at_call 110; refine (within_any _ _ _ _).mono ?_; rw [M1.out]; rintro e w1 ⟨rfl, rfl⟩)
    have h1 : BoxAt (w.alloc (.cells #[.int .i64 0, .int .i64 0] 101)) (w.heap.size) 101 [.int .i64 0, .int .i64 0] := by simpa using (BoxAt.new w 101 [.int .i64 0, .int .i64 0])
    have hs0 := (Same.alloc (Same.refl w) (.cells #[.int .i64 0, .int .i64 0] 101))
    generalize (w.alloc (.cells #[.int .i64 0, .int .i64 0] 101)) = w0 at *
    have z0 := h1.cell 0 rfl
    have z1 := h1.cell 1 rfl
    exact bodyPost_ret (v := .tuple #[.agg #[.int .i64 0, .int .i64 0], .bool false]) (by simp [results, Tryz.results119, go_sem, z0, z1]) rfl ⟨by rw [HV.out], hs0⟩
  cases m2 : inB d (-1000000000000) 1000000000000
  · have HV := Lib.hid (show fracNew n d = (0, 0, false) by rw [HR.out]; simp [m2])
    have M1 := Lib.hid m1
    have M2 := Lib.hid m2
    clear m1 m2
    go_enter Tryz.func119, Tryz.ntmps119
    go_wp2_with (go_at_call 110; refine (within_any _ _ _ _).mono ?_; (first | rw [M1.out] | rw [M2.out]); rintro e w1 ⟨rfl, rfl⟩)
    have h1 : BoxAt (w.alloc (.cells #[.int .i64 0, .int .i64 0] 101)) (w.heap.size) 101 [.int .i64 0, .int .i64 0] := by simpa using (BoxAt.new w 101 [.int .i64 0, .int .i64 0])
    have hs0 := (Same.alloc (Same.refl w) (.cells #[.int .i64 0, .int .i64 0] 101))
    generalize (w.alloc (.cells #[.int .i64 0, .int .i64 0] 101)) = w0 at *
    have z0 := h1.cell 0 rfl
    have z1 := h1.cell 1 rfl
    exact bodyPost_ret (v := .tuple #[.agg #[.int .i64 0, .int .i64 0], .bool false]) (by simp [results, Tryz.results119, go_sem, z0, z1]) rfl ⟨by rw [HV.out], hs0⟩
  have h1 := inB_iff.1 m1
  have h2 := inB_iff.1 m2
  have HV := Lib.hid (show fracNew n d = lowest n d by rw [HR.out, m1, m2]; simp [h0])
  have M1 := Lib.hid m1
  have M2 := Lib.hid m2
  clear m1 m2
  go_enter Tryz.func119, Tryz.ntmps119
  go_wp2_with (go_at_call 110; refine (within_any _ _ _ _).mono ?_; (first | rw [M1.out] | rw [M2.out]); rintro e w1 ⟨rfl, rfl⟩)
  have hb1 : BoxAt (w.alloc (.cells #[.int .i64 0, .int .i64 0] 101)) (w.heap.size) 101 [.int .i64 0, .int .i64 0] := by simpa using (BoxAt.new w 101 [.int .i64 0, .int .i64 0])
  have hs0 := (Same.alloc (Same.refl w) (.cells #[.int .i64 0, .int .i64 0] 101))
  generalize (w.alloc (.cells #[.int .i64 0, .int .i64 0] 101)) = w0 at *
  refine (reduced_any n d _ (by omega) (by omega) h0).mono ?_
  rintro e w1 ⟨rfl, hs1⟩
  replace hb1 := hb1.same hs1
  have S1 := hs0.trans hs1
  rw [← HV.out]
  have x0 := hb1.cell 0 rfl
  have x1 := hb1.cell 1 rfl
  have xf0 := hb1.frozen 0
  have xf1 := hb1.frozen 1
  have xL := hb1.lt
  go_wp2
  have h9 := (hb1.set 0 (.int .i64 (fracNew n d).1)).set 1 (.int .i64 (fracNew n d).2.1)
  have S9 := (S1.setCell (p := ⟨w.heap.size, 0, none⟩) (Nat.le_refl _) (.int .i64 (fracNew n d).1)).setCell (p := ⟨w.heap.size, 1, none⟩) (Nat.le_refl _) (.int .i64 (fracNew n d).2.1)
  generalize (w1.setCell ⟨w.heap.size, 0, none⟩ (.int .i64 (fracNew n d).1)).setCell ⟨w.heap.size, 1, none⟩ (.int .i64 (fracNew n d).2.1) = w9 at *
  have z0 := h9.cell 0 rfl
  have z1 := h9.cell 1 rfl
  exact bodyPost_ret (v := .tuple #[.agg #[.int .i64 (fracNew n d).1, .int .i64 (fracNew n d).2.1], .bool (fracNew n d).2.2]) (by simp [results, Tryz.results119, go_sem, z0, z1]) rfl ⟨rfl, S9⟩


set_option maxHeartbeats 1000000 in
theorem iFracAdd_no (n d m e : Int) (w : World) (h : (fracOk n d && fracOk m e) = false) :
    Calls Tryz.prog 205 #[.agg #[.int .i64 n, .int .i64 d], .agg #[.int .i64 m, .int .i64 e]] w fun e' w' => e' = .returned (.tuple #[.agg #[.int .i64 0, .int .i64 0], .bool false]) ∧ Same w w' := by
  cases m1 : fracOk n d
  · clear h
    go_enter Tryz.func205, Tryz.ntmps205
    go_wp2_with fail
    have h3 : BoxAt (((w.alloc (.cells #[.int .i64 n, .int .i64 d] 101)).alloc (.cells #[.int .i64 m, .int .i64 e] 101)).alloc (.cells #[.int .i64 0, .int .i64 0] 101)) (w.heap.size + 1 + 1) 101 [.int .i64 0, .int .i64 0] := by simpa using (BoxAt.new ((w.alloc (.cells #[.int .i64 n, .int .i64 d] 101)).alloc (.cells #[.int .i64 m, .int .i64 e] 101)) 101 [.int .i64 0, .int .i64 0])
    have hs0 := (Same.alloc (Same.alloc (Same.alloc (Same.refl w) (.cells #[.int .i64 n, .int .i64 d] 101)) (.cells #[.int .i64 m, .int .i64 e] 101)) (.cells #[.int .i64 0, .int .i64 0] 101))
    generalize (((w.alloc (.cells #[.int .i64 n, .int .i64 d] 101)).alloc (.cells #[.int .i64 m, .int .i64 e] 101)).alloc (.cells #[.int .i64 0, .int .i64 0] 101)) = w0 at *
    refine (iFracOk_any n d _).mono ?_
    rw [m1]
    rintro e' w1 ⟨rfl, hs1⟩
    have S1 := hs0.trans hs1
    replace h3 := h3.same hs1
    have x0 := h3.cell 0 rfl
    have x1 := h3.cell 1 rfl
    have xf0 := h3.frozen 0
    have xf1 := h3.frozen 1
    have xL := h3.lt
    go_wp2
    have h9 := (h3.set 0 (.int .i64 0)).set 1 (.int .i64 0)
    have S9 := (S1.setCell (p := ⟨(w.heap.size + 1 + 1), 0, none⟩) (show w.heap.size ≤ w.heap.size + 1 + 1 by omega) (.int .i64 0)).setCell (p := ⟨(w.heap.size + 1 + 1), 1, none⟩) (show w.heap.size ≤ w.heap.size + 1 + 1 by omega) (.int .i64 0)
    generalize (w1.setCell ⟨(w.heap.size + 1 + 1), 0, none⟩ (.int .i64 0)).setCell ⟨(w.heap.size + 1 + 1), 1, none⟩ (.int .i64 0) = w9 at *
    have z0 := h9.cell 0 rfl
    have z1 := h9.cell 1 rfl
    exact bodyPost_ret (v := .tuple #[.agg #[.int .i64 0, .int .i64 0], .bool false]) (by simp [results, Tryz.results205, go_sem, z0, z1]) rfl ⟨rfl, S9⟩
  · have m2 : fracOk m e = false := by rw [m1] at h; exact h
    clear h
    go_enter Tryz.func205, Tryz.ntmps205
    go_wp2_with fail
    have h2 : BoxAt (((w.alloc (.cells #[.int .i64 n, .int .i64 d] 101)).alloc (.cells #[.int .i64 m, .int .i64 e] 101)).alloc (.cells #[.int .i64 0, .int .i64 0] 101)) (w.heap.size + 1) 101 [.int .i64 m, .int .i64 e] := by simpa using (BoxAt.alloc (BoxAt.new (w.alloc (.cells #[.int .i64 n, .int .i64 d] 101)) 101 [.int .i64 m, .int .i64 e]) (.cells #[.int .i64 0, .int .i64 0] 101))
    have h3 : BoxAt (((w.alloc (.cells #[.int .i64 n, .int .i64 d] 101)).alloc (.cells #[.int .i64 m, .int .i64 e] 101)).alloc (.cells #[.int .i64 0, .int .i64 0] 101)) (w.heap.size + 1 + 1) 101 [.int .i64 0, .int .i64 0] := by simpa using (BoxAt.new ((w.alloc (.cells #[.int .i64 n, .int .i64 d] 101)).alloc (.cells #[.int .i64 m, .int .i64 e] 101)) 101 [.int .i64 0, .int .i64 0])
    have hs0 := (Same.alloc (Same.alloc (Same.alloc (Same.refl w) (.cells #[.int .i64 n, .int .i64 d] 101)) (.cells #[.int .i64 m, .int .i64 e] 101)) (.cells #[.int .i64 0, .int .i64 0] 101))
    generalize (((w.alloc (.cells #[.int .i64 n, .int .i64 d] 101)).alloc (.cells #[.int .i64 m, .int .i64 e] 101)).alloc (.cells #[.int .i64 0, .int .i64 0] 101)) = w0 at *
    refine (iFracOk_any n d _).mono ?_
    rw [m1]
    rintro e' w1 ⟨rfl, hs1⟩
    have hs2 := hs1
    clear hs1
    have S2 := hs0.trans hs2
    replace h2 := h2.same hs2
    replace h3 := h3.same hs2
    have y0 := h2.cell 0 rfl
    have y1 := h2.cell 1 rfl
    have yL := h2.lt
    go_wp2_with fail
    refine (iFracOk_any m e _).mono ?_
    rw [m2]
    rintro e' w1 ⟨rfl, hs1⟩
    clear y0 y1 yL
    have S1 := S2.trans hs1
    replace h3 := h3.same hs1
    have x0 := h3.cell 0 rfl
    have x1 := h3.cell 1 rfl
    have xf0 := h3.frozen 0
    have xf1 := h3.frozen 1
    have xL := h3.lt
    go_wp2
    have h9 := (h3.set 0 (.int .i64 0)).set 1 (.int .i64 0)
    have S9 := (S1.setCell (p := ⟨(w.heap.size + 1 + 1), 0, none⟩) (show w.heap.size ≤ w.heap.size + 1 + 1 by omega) (.int .i64 0)).setCell (p := ⟨(w.heap.size + 1 + 1), 1, none⟩) (show w.heap.size ≤ w.heap.size + 1 + 1 by omega) (.int .i64 0)
    generalize (w1.setCell ⟨(w.heap.size + 1 + 1), 0, none⟩ (.int .i64 0)).setCell ⟨(w.heap.size + 1 + 1), 1, none⟩ (.int .i64 0) = w9 at *
    have z0 := h9.cell 0 rfl
    have z1 := h9.cell 1 rfl
    exact bodyPost_ret (v := .tuple #[.agg #[.int .i64 0, .int .i64 0], .bool false]) (by simp [results, Tryz.results205, go_sem, z0, z1]) rfl ⟨rfl, S9⟩

set_option maxHeartbeats 1000000 in
theorem iFracSub_no (n d m e : Int) (w : World) (h : (fracOk n d && fracOk m e) = false) :
    Calls Tryz.prog 206 #[.agg #[.int .i64 n, .int .i64 d], .agg #[.int .i64 m, .int .i64 e]] w fun e' w' => e' = .returned (.tuple #[.agg #[.int .i64 0, .int .i64 0], .bool false]) ∧ Same w w' := by
  cases m1 : fracOk n d
  · clear h
    go_enter Tryz.func206, Tryz.ntmps206
    go_wp2_with fail
    have h3 : BoxAt (((w.alloc (.cells #[.int .i64 n, .int .i64 d] 101)).alloc (.cells #[.int .i64 m, .int .i64 e] 101)).alloc (.cells #[.int .i64 0, .int .i64 0] 101)) (w.heap.size + 1 + 1) 101 [.int .i64 0, .int .i64 0] := by simpa using (BoxAt.new ((w.alloc (.cells #[.int .i64 n, .int .i64 d] 101)).alloc (.cells #[.int .i64 m, .int .i64 e] 101)) 101 [.int .i64 0, .int .i64 0])
    have hs0 := (Same.alloc (Same.alloc (Same.alloc (Same.refl w) (.cells #[.int .i64 n, .int .i64 d] 101)) (.cells #[.int .i64 m, .int .i64 e] 101)) (.cells #[.int .i64 0, .int .i64 0] 101))
    generalize (((w.alloc (.cells #[.int .i64 n, .int .i64 d] 101)).alloc (.cells #[.int .i64 m, .int .i64 e] 101)).alloc (.cells #[.int .i64 0, .int .i64 0] 101)) = w0 at *
    refine (iFracOk_any n d _).mono ?_
    rw [m1]
    rintro e' w1 ⟨rfl, hs1⟩
    have S1 := hs0.trans hs1
    replace h3 := h3.same hs1
    have x0 := h3.cell 0 rfl
    have x1 := h3.cell 1 rfl
    have xf0 := h3.frozen 0
    have xf1 := h3.frozen 1
    have xL := h3.lt
    go_wp2
    have h9 := (h3.set 0 (.int .i64 0)).set 1 (.int .i64 0)
    have S9 := (S1.setCell (p := ⟨(w.heap.size + 1 + 1), 0, none⟩) (show w.heap.size ≤ w.heap.size + 1 + 1 by omega) (.int .i64 0)).setCell (p := ⟨(w.heap.size + 1 + 1), 1, none⟩) (show w.heap.size ≤ w.heap.size + 1 + 1 by omega) (.int .i64 0)
    generalize (w1.setCell ⟨(w.heap.size + 1 + 1), 0, none⟩ (.int .i64 0)).setCell ⟨(w.heap.size + 1 + 1), 1, none⟩ (.int .i64 0) = w9 at *
    have z0 := h9.cell 0 rfl
    have z1 := h9.cell 1 rfl
    exact bodyPost_ret (v := .tuple #[.agg #[.int .i64 0, .int .i64 0], .bool false]) (by simp [results, Tryz.results206, go_sem, z0, z1]) rfl ⟨rfl, S9⟩
  · have m2 : fracOk m e = false := by rw [m1] at h; exact h
    clear h
    go_enter Tryz.func206, Tryz.ntmps206
    go_wp2_with fail
    have h2 : BoxAt (((w.alloc (.cells #[.int .i64 n, .int .i64 d] 101)).alloc (.cells #[.int .i64 m, .int .i64 e] 101)).alloc (.cells #[.int .i64 0, .int .i64 0] 101)) (w.heap.size + 1) 101 [.int .i64 m, .int .i64 e] := by simpa using (BoxAt.alloc (BoxAt.new (w.alloc (.cells #[.int .i64 n, .int .i64 d] 101)) 101 [.int .i64 m, .int .i64 e]) (.cells #[.int .i64 0, .int .i64 0] 101))
    have h3 : BoxAt (((w.alloc (.cells #[.int .i64 n, .int .i64 d] 101)).alloc (.cells #[.int .i64 m, .int .i64 e] 101)).alloc (.cells #[.int .i64 0, .int .i64 0] 101)) (w.heap.size + 1 + 1) 101 [.int .i64 0, .int .i64 0] := by simpa using (BoxAt.new ((w.alloc (.cells #[.int .i64 n, .int .i64 d] 101)).alloc (.cells #[.int .i64 m, .int .i64 e] 101)) 101 [.int .i64 0, .int .i64 0])
    have hs0 := (Same.alloc (Same.alloc (Same.alloc (Same.refl w) (.cells #[.int .i64 n, .int .i64 d] 101)) (.cells #[.int .i64 m, .int .i64 e] 101)) (.cells #[.int .i64 0, .int .i64 0] 101))
    generalize (((w.alloc (.cells #[.int .i64 n, .int .i64 d] 101)).alloc (.cells #[.int .i64 m, .int .i64 e] 101)).alloc (.cells #[.int .i64 0, .int .i64 0] 101)) = w0 at *
    refine (iFracOk_any n d _).mono ?_
    rw [m1]
    rintro e' w1 ⟨rfl, hs1⟩
    have hs2 := hs1
    clear hs1
    have S2 := hs0.trans hs2
    replace h2 := h2.same hs2
    replace h3 := h3.same hs2
    have y0 := h2.cell 0 rfl
    have y1 := h2.cell 1 rfl
    have yL := h2.lt
    go_wp2_with fail
    refine (iFracOk_any m e _).mono ?_
    rw [m2]
    rintro e' w1 ⟨rfl, hs1⟩
    clear y0 y1 yL
    have S1 := S2.trans hs1
    replace h3 := h3.same hs1
    have x0 := h3.cell 0 rfl
    have x1 := h3.cell 1 rfl
    have xf0 := h3.frozen 0
    have xf1 := h3.frozen 1
    have xL := h3.lt
    go_wp2
    have h9 := (h3.set 0 (.int .i64 0)).set 1 (.int .i64 0)
    have S9 := (S1.setCell (p := ⟨(w.heap.size + 1 + 1), 0, none⟩) (show w.heap.size ≤ w.heap.size + 1 + 1 by omega) (.int .i64 0)).setCell (p := ⟨(w.heap.size + 1 + 1), 1, none⟩) (show w.heap.size ≤ w.heap.size + 1 + 1 by omega) (.int .i64 0)
    generalize (w1.setCell ⟨(w.heap.size + 1 + 1), 0, none⟩ (.int .i64 0)).setCell ⟨(w.heap.size + 1 + 1), 1, none⟩ (.int .i64 0) = w9 at *
    have z0 := h9.cell 0 rfl
    have z1 := h9.cell 1 rfl
    exact bodyPost_ret (v := .tuple #[.agg #[.int .i64 0, .int .i64 0], .bool false]) (by simp [results, Tryz.results206, go_sem, z0, z1]) rfl ⟨rfl, S9⟩

set_option maxHeartbeats 1000000 in
theorem iFracCmp_no (n d m e : Int) (w : World) (h : (fracOk n d && fracOk m e) = false) :
    Calls Tryz.prog 204 #[.agg #[.int .i64 n, .int .i64 d], .agg #[.int .i64 m, .int .i64 e]] w fun e' w' => e' = .returned (.int .i64 2) ∧ Same w w' := by
  cases m1 : fracOk n d
  · clear h
    go_enter Tryz.func204, Tryz.ntmps204
    go_wp2_with fail
    have hs0 := (Same.alloc (Same.alloc (Same.refl w) (.cells #[.int .i64 n, .int .i64 d] 101)) (.cells #[.int .i64 m, .int .i64 e] 101))
    generalize ((w.alloc (.cells #[.int .i64 n, .int .i64 d] 101)).alloc (.cells #[.int .i64 m, .int .i64 e] 101)) = w0 at *
    refine (iFracOk_any n d _).mono ?_
    rw [m1]
    rintro e' w1 ⟨rfl, hs1⟩
    have S1 := hs0.trans hs1
    go_wp2
    go_ret
    exact ⟨rfl, S1⟩
  · have m2 : fracOk m e = false := by rw [m1] at h; exact h
    clear h
    go_enter Tryz.func204, Tryz.ntmps204
    go_wp2_with fail
    have h2 : BoxAt ((w.alloc (.cells #[.int .i64 n, .int .i64 d] 101)).alloc (.cells #[.int .i64 m, .int .i64 e] 101)) (w.heap.size + 1) 101 [.int .i64 m, .int .i64 e] := by simpa using (BoxAt.new (w.alloc (.cells #[.int .i64 n, .int .i64 d] 101)) 101 [.int .i64 m, .int .i64 e])
    have hs0 := (Same.alloc (Same.alloc (Same.refl w) (.cells #[.int .i64 n, .int .i64 d] 101)) (.cells #[.int .i64 m, .int .i64 e] 101))
    generalize ((w.alloc (.cells #[.int .i64 n, .int .i64 d] 101)).alloc (.cells #[.int .i64 m, .int .i64 e] 101)) = w0 at *
    refine (iFracOk_any n d _).mono ?_
    rw [m1]
    rintro e' w1 ⟨rfl, hs1⟩
    have hs2 := hs1
    clear hs1
    have S2 := hs0.trans hs2
    replace h2 := h2.same hs2
    have y0 := h2.cell 0 rfl
    have y1 := h2.cell 1 rfl
    have yL := h2.lt
    go_wp2_with fail
    refine (iFracOk_any m e _).mono ?_
    rw [m2]
    rintro e' w1 ⟨rfl, hs1⟩
    clear y0 y1 yL
    have S1 := S2.trans hs1
    go_wp2
    go_ret
    exact ⟨rfl, S1⟩

set_option maxRecDepth 10000 in
set_option maxHeartbeats 1000000 in
theorem iFracAdd_any (n d m e : Int) (w : World) :
    Calls Tryz.prog 205 #[.agg #[.int .i64 n, .int .i64 d], .agg #[.int .i64 m, .int .i64 e]] w fun e' w' => e' = .returned (.tuple #[.agg #[.int .i64 (fracAdd (n, d) (m, e)).1, .int .i64 (fracAdd (n, d) (m, e)).2.1], .bool (fracAdd (n, d) (m, e)).2.2]) ∧ Same w w' := by
  cases h : fracOk n d && fracOk m e
  · refine (iFracAdd_no n d m e w h).mono ?_
    rintro e' w' ⟨rfl, hw⟩
    have hz : fracAdd (n, d) (m, e) = (0, 0, false) := by unfold fracAdd; rw [h]; rfl
    rw [hz]
    exact ⟨rfl, hw⟩
  rw [Bool.and_eq_true] at h
  obtain ⟨m1, m2⟩ := h
  have i1 := fracOk_iff.1 m1
  have i2 := fracOk_iff.1 m2
  have HR := Lib.hid (show fracAdd (n, d) (m, e) = lowest (n * e + m * d) (d * e) by simp [fracAdd, m1, m2])
  have M1 := Lib.hid m1
  have M2 := Lib.hid m2
  clear m1 m2
  have hu := natAbs_mul_le (x := n) (y := e) (X := 1000000000000) (Y := 1000000) (by omega) (by omega)
  have hv := natAbs_mul_le (x := m) (y := d) (X := 1000000000000) (Y := 1000000) (by omega) (by omega)
  have hq := natAbs_mul_le (x := d) (y := e) (X := 1000000) (Y := 1000000) (by omega) (by omega)
  have hq0 : 0 < d * e := Int.mul_pos (by omega) (by omega)
  obtain ⟨u, eu⟩ : ∃ u, n * e = u := ⟨_, rfl⟩
  obtain ⟨v, ev⟩ : ∃ v, m * d = v := ⟨_, rfl⟩
  obtain ⟨q, eq⟩ : ∃ q, d * e = q := ⟨_, rfl⟩
  rw [eu] at hu HR
  rw [ev] at hv HR
  rw [eq] at hq hq0 HR
  go_enter Tryz.func205, Tryz.ntmps205
  go_wp2_with fail
  have h1 : BoxAt (((w.alloc (.cells #[.int .i64 n, .int .i64 d] 101)).alloc (.cells #[.int .i64 m, .int .i64 e] 101)).alloc (.cells #[.int .i64 0, .int .i64 0] 101)) (w.heap.size) 101 [.int .i64 n, .int .i64 d] := by simpa using (BoxAt.alloc (BoxAt.alloc (BoxAt.new w 101 [.int .i64 n, .int .i64 d]) (.cells #[.int .i64 m, .int .i64 e] 101)) (.cells #[.int .i64 0, .int .i64 0] 101))
  have h2 : BoxAt (((w.alloc (.cells #[.int .i64 n, .int .i64 d] 101)).alloc (.cells #[.int .i64 m, .int .i64 e] 101)).alloc (.cells #[.int .i64 0, .int .i64 0] 101)) (w.heap.size + 1) 101 [.int .i64 m, .int .i64 e] := by simpa using (BoxAt.alloc (BoxAt.new (w.alloc (.cells #[.int .i64 n, .int .i64 d] 101)) 101 [.int .i64 m, .int .i64 e]) (.cells #[.int .i64 0, .int .i64 0] 101))
  have h3 : BoxAt (((w.alloc (.cells #[.int .i64 n, .int .i64 d] 101)).alloc (.cells #[.int .i64 m, .int .i64 e] 101)).alloc (.cells #[.int .i64 0, .int .i64 0] 101)) (w.heap.size + 1 + 1) 101 [.int .i64 0, .int .i64 0] := by simpa using (BoxAt.new ((w.alloc (.cells #[.int .i64 n, .int .i64 d] 101)).alloc (.cells #[.int .i64 m, .int .i64 e] 101)) 101 [.int .i64 0, .int .i64 0])
  have hs0 := (Same.alloc (Same.alloc (Same.alloc (Same.refl w) (.cells #[.int .i64 n, .int .i64 d] 101)) (.cells #[.int .i64 m, .int .i64 e] 101)) (.cells #[.int .i64 0, .int .i64 0] 101))
  generalize (((w.alloc (.cells #[.int .i64 n, .int .i64 d] 101)).alloc (.cells #[.int .i64 m, .int .i64 e] 101)).alloc (.cells #[.int .i64 0, .int .i64 0] 101)) = w0 at *
  refine (iFracOk_any n d _).mono ?_
  rw [M1.out]
  rintro e' w2 ⟨rfl, hs2⟩
  have y0 := (h2.same hs2).cell 0 rfl
  have y1 := (h2.same hs2).cell 1 rfl
  have yL := (h2.same hs2).lt
  go_wp2_with fail
  clear y0 y1 yL
  refine (iFracOk_any m e _).mono ?_
  rw [M2.out]
  rintro e' w3 ⟨rfl, hs3⟩
  have S3 := (hs0.trans hs2).trans hs3
  have T3 := hs2.trans hs3
  replace h1 := h1.same T3
  replace h2 := h2.same T3
  replace h3 := h3.same T3
  clear T3 hs3 hs2 hs0
  have y0 := h1.cell 0 rfl
  have y1 := h1.cell 1 rfl
  have yL := h1.lt
  have u0 := h2.cell 0 rfl
  have u1 := h2.cell 1 rfl
  have uL := h2.lt
  have x0 := h3.cell 0 rfl
  have x1 := h3.cell 1 rfl
  have xf0 := h3.frozen 0
  have xf1 := h3.frozen 1
  have xL := h3.lt
  go_wp2_with fail
  refine (reduced_any (u + v) q _ (by omega) (by omega) (by omega)).mono ?_
  rw [← HR.out]
  rintro e' w4 ⟨rfl, hs4⟩
  replace h3 := h3.same hs4
  have S4 := S3.trans hs4
  clear x0 x1 xf0 xf1 xL y0 y1 yL u0 u1 uL
  have x0 := h3.cell 0 rfl
  have x1 := h3.cell 1 rfl
  have xf0 := h3.frozen 0
  have xf1 := h3.frozen 1
  have xL := h3.lt
  go_wp2
  have h9 := (h3.set 0 (.int .i64 (fracAdd (n, d) (m, e)).1)).set 1 (.int .i64 (fracAdd (n, d) (m, e)).2.1)
  have S9 := (S4.setCell (p := ⟨(w.heap.size + 1 + 1), 0, none⟩) (show w.heap.size ≤ w.heap.size + 1 + 1 by omega) (.int .i64 (fracAdd (n, d) (m, e)).1)).setCell (p := ⟨(w.heap.size + 1 + 1), 1, none⟩) (show w.heap.size ≤ w.heap.size + 1 + 1 by omega) (.int .i64 (fracAdd (n, d) (m, e)).2.1)
  generalize (w4.setCell ⟨(w.heap.size + 1 + 1), 0, none⟩ (.int .i64 (fracAdd (n, d) (m, e)).1)).setCell ⟨(w.heap.size + 1 + 1), 1, none⟩ (.int .i64 (fracAdd (n, d) (m, e)).2.1) = w9 at *
  have z0 := h9.cell 0 rfl
  have z1 := h9.cell 1 rfl
  exact bodyPost_ret (v := .tuple #[.agg #[.int .i64 (fracAdd (n, d) (m, e)).1, .int .i64 (fracAdd (n, d) (m, e)).2.1], .bool (fracAdd (n, d) (m, e)).2.2]) (by simp [results, Tryz.results205, go_sem, z0, z1]) rfl ⟨rfl, S9⟩

set_option maxRecDepth 10000 in
set_option maxHeartbeats 1000000 in
theorem iFracSub_any (n d m e : Int) (w : World) :
    Calls Tryz.prog 206 #[.agg #[.int .i64 n, .int .i64 d], .agg #[.int .i64 m, .int .i64 e]] w fun e' w' => e' = .returned (.tuple #[.agg #[.int .i64 (fracSub (n, d) (m, e)).1, .int .i64 (fracSub (n, d) (m, e)).2.1], .bool (fracSub (n, d) (m, e)).2.2]) ∧ Same w w' := by
  cases h : fracOk n d && fracOk m e
  · refine (iFracSub_no n d m e w h).mono ?_
    rintro e' w' ⟨rfl, hw⟩
    have hz : fracSub (n, d) (m, e) = (0, 0, false) := by unfold fracSub; rw [h]; rfl
    rw [hz]
    exact ⟨rfl, hw⟩
  rw [Bool.and_eq_true] at h
  obtain ⟨m1, m2⟩ := h
  have i1 := fracOk_iff.1 m1
  have i2 := fracOk_iff.1 m2
  have HR := Lib.hid (show fracSub (n, d) (m, e) = lowest (n * e - m * d) (d * e) by simp [fracSub, m1, m2])
  have M1 := Lib.hid m1
  have M2 := Lib.hid m2
  clear m1 m2
  have hu := natAbs_mul_le (x := n) (y := e) (X := 1000000000000) (Y := 1000000) (by omega) (by omega)
  have hv := natAbs_mul_le (x := m) (y := d) (X := 1000000000000) (Y := 1000000) (by omega) (by omega)
  have hq := natAbs_mul_le (x := d) (y := e) (X := 1000000) (Y := 1000000) (by omega) (by omega)
  have hq0 : 0 < d * e := Int.mul_pos (by omega) (by omega)
  obtain ⟨u, eu⟩ : ∃ u, n * e = u := ⟨_, rfl⟩
  obtain ⟨v, ev⟩ : ∃ v, m * d = v := ⟨_, rfl⟩
  obtain ⟨q, eq⟩ : ∃ q, d * e = q := ⟨_, rfl⟩
  rw [eu] at hu HR
  rw [ev] at hv HR
  rw [eq] at hq hq0 HR
  go_enter Tryz.func206, Tryz.ntmps206
  go_wp2_with fail
  have h1 : BoxAt (((w.alloc (.cells #[.int .i64 n, .int .i64 d] 101)).alloc (.cells #[.int .i64 m, .int .i64 e] 101)).alloc (.cells #[.int .i64 0, .int .i64 0] 101)) (w.heap.size) 101 [.int .i64 n, .int .i64 d] := by simpa using (BoxAt.alloc (BoxAt.alloc (BoxAt.new w 101 [.int .i64 n, .int .i64 d]) (.cells #[.int .i64 m, .int .i64 e] 101)) (.cells #[.int .i64 0, .int .i64 0] 101))
  have h2 : BoxAt (((w.alloc (.cells #[.int .i64 n, .int .i64 d] 101)).alloc (.cells #[.int .i64 m, .int .i64 e] 101)).alloc (.cells #[.int .i64 0, .int .i64 0] 101)) (w.heap.size + 1) 101 [.int .i64 m, .int .i64 e] := by simpa using (BoxAt.alloc (BoxAt.new (w.alloc (.cells #[.int .i64 n, .int .i64 d] 101)) 101 [.int .i64 m, .int .i64 e]) (.cells #[.int .i64 0, .int .i64 0] 101))
  have h3 : BoxAt (((w.alloc (.cells #[.int .i64 n, .int .i64 d] 101)).alloc (.cells #[.int .i64 m, .int .i64 e] 101)).alloc (.cells #[.int .i64 0, .int .i64 0] 101)) (w.heap.size + 1 + 1) 101 [.int .i64 0, .int .i64 0] := by simpa using (BoxAt.new ((w.alloc (.cells #[.int .i64 n, .int .i64 d] 101)).alloc (.cells #[.int .i64 m, .int .i64 e] 101)) 101 [.int .i64 0, .int .i64 0])
  have hs0 := (Same.alloc (Same.alloc (Same.alloc (Same.refl w) (.cells #[.int .i64 n, .int .i64 d] 101)) (.cells #[.int .i64 m, .int .i64 e] 101)) (.cells #[.int .i64 0, .int .i64 0] 101))
  generalize (((w.alloc (.cells #[.int .i64 n, .int .i64 d] 101)).alloc (.cells #[.int .i64 m, .int .i64 e] 101)).alloc (.cells #[.int .i64 0, .int .i64 0] 101)) = w0 at *
  refine (iFracOk_any n d _).mono ?_
  rw [M1.out]
  rintro e' w2 ⟨rfl, hs2⟩
  have y0 := (h2.same hs2).cell 0 rfl
  have y1 := (h2.same hs2).cell 1 rfl
  have yL := (h2.same hs2).lt
  go_wp2_with fail
  clear y0 y1 yL
  refine (iFracOk_any m e _).mono ?_
  rw [M2.out]
  rintro e' w3 ⟨rfl, hs3⟩
  have S3 := (hs0.trans hs2).trans hs3
  have T3 := hs2.trans hs3
  replace h1 := h1.same T3
  replace h2 := h2.same T3
  replace h3 := h3.same T3
  clear T3 hs3 hs2 hs0
  have y0 := h1.cell 0 rfl
  have y1 := h1.cell 1 rfl
  have yL := h1.lt
  have u0 := h2.cell 0 rfl
  have u1 := h2.cell 1 rfl
  have uL := h2.lt
  have x0 := h3.cell 0 rfl
  have x1 := h3.cell 1 rfl
  have xf0 := h3.frozen 0
  have xf1 := h3.frozen 1
  have xL := h3.lt
  go_wp2_with fail
  refine (reduced_any (u - v) q _ (by omega) (by omega) (by omega)).mono ?_
  rw [← HR.out]
  rintro e' w4 ⟨rfl, hs4⟩
  replace h3 := h3.same hs4
  have S4 := S3.trans hs4
  clear x0 x1 xf0 xf1 xL y0 y1 yL u0 u1 uL
  have x0 := h3.cell 0 rfl
  have x1 := h3.cell 1 rfl
  have xf0 := h3.frozen 0
  have xf1 := h3.frozen 1
  have xL := h3.lt
  go_wp2
  have h9 := (h3.set 0 (.int .i64 (fracSub (n, d) (m, e)).1)).set 1 (.int .i64 (fracSub (n, d) (m, e)).2.1)
  have S9 := (S4.setCell (p := ⟨(w.heap.size + 1 + 1), 0, none⟩) (show w.heap.size ≤ w.heap.size + 1 + 1 by omega) (.int .i64 (fracSub (n, d) (m, e)).1)).setCell (p := ⟨(w.heap.size + 1 + 1), 1, none⟩) (show w.heap.size ≤ w.heap.size + 1 + 1 by omega) (.int .i64 (fracSub (n, d) (m, e)).2.1)
  generalize (w4.setCell ⟨(w.heap.size + 1 + 1), 0, none⟩ (.int .i64 (fracSub (n, d) (m, e)).1)).setCell ⟨(w.heap.size + 1 + 1), 1, none⟩ (.int .i64 (fracSub (n, d) (m, e)).2.1) = w9 at *
  have z0 := h9.cell 0 rfl
  have z1 := h9.cell 1 rfl
  exact bodyPost_ret (v := .tuple #[.agg #[.int .i64 (fracSub (n, d) (m, e)).1, .int .i64 (fracSub (n, d) (m, e)).2.1], .bool (fracSub (n, d) (m, e)).2.2]) (by simp [results, Tryz.results206, go_sem, z0, z1]) rfl ⟨rfl, S9⟩

theorem isNaN_any (a : Int) (w : World) : Calls Tryz.prog 219 #[.int .i64 a] w fun e w' => e = .returned (.bool false) ∧ w = w' := by
  go_enter Tryz.func219, Tryz.ntmps219
  go_wp2
  go_ret
  exact ⟨ret_bool (by simp), rfl⟩
theorem compare_any (a b : Int) (w : World) : Calls Tryz.prog 216 #[.int .i64 a, .int .i64 b] w fun e w' => e = .returned (.int .i64 (if a < b then -1 else if b < a then 1 else 0)) ∧ w = w' := by
  go_enter Tryz.func216, Tryz.ntmps216
  go_wp2_with (go_at_call 219; refine (isNaN_any _ _).mono ?_; rintro e w' ⟨rfl, rfl⟩)
  all_goals go_ret
  all_goals exact ⟨ret_int (by (repeat' split) <;> omega), rfl⟩

set_option maxRecDepth 10000 in
set_option maxHeartbeats 1000000 in
theorem iFracCmp_any (n d m e : Int) (w : World) :
    Calls Tryz.prog 204 #[.agg #[.int .i64 n, .int .i64 d], .agg #[.int .i64 m, .int .i64 e]] w fun e' w' => e' = .returned (.int .i64 (fracCmp (n, d) (m, e))) ∧ Same w w' := by
  cases h : fracOk n d && fracOk m e
  · refine (iFracCmp_no n d m e w h).mono ?_
    rintro e' w' ⟨rfl, hw⟩
    have hz : fracCmp (n, d) (m, e) = 2 := by unfold fracCmp; rw [h]; rfl
    rw [hz]
    exact ⟨rfl, hw⟩
  rw [Bool.and_eq_true] at h
  obtain ⟨m1, m2⟩ := h
  have i1 := fracOk_iff.1 m1
  have i2 := fracOk_iff.1 m2
  have HR := Lib.hid (show fracCmp (n, d) (m, e) = if n * e < m * d then -1 else if m * d < n * e then 1 else 0 by simp [fracCmp, m1, m2])
  have M1 := Lib.hid m1
  have M2 := Lib.hid m2
  clear m1 m2
  have hu := natAbs_mul_le (x := n) (y := e) (X := 1000000000000) (Y := 1000000) (by omega) (by omega)
  have hq := natAbs_mul_le (x := m) (y := d) (X := 1000000000000) (Y := 1000000) (by omega) (by omega)
  obtain ⟨u, eu⟩ : ∃ u, n * e = u := ⟨_, rfl⟩
  obtain ⟨q, eq⟩ : ∃ q, m * d = q := ⟨_, rfl⟩
  rw [eu, eq] at HR
  rw [eu] at hu
  rw [eq] at hq
  go_enter Tryz.func204, Tryz.ntmps204
  go_wp2_with fail
  have h1 : BoxAt ((w.alloc (.cells #[.int .i64 n, .int .i64 d] 101)).alloc (.cells #[.int .i64 m, .int .i64 e] 101)) (w.heap.size) 101 [.int .i64 n, .int .i64 d] := by simpa using (BoxAt.alloc (BoxAt.new w 101 [.int .i64 n, .int .i64 d]) (.cells #[.int .i64 m, .int .i64 e] 101))
  have h2 : BoxAt ((w.alloc (.cells #[.int .i64 n, .int .i64 d] 101)).alloc (.cells #[.int .i64 m, .int .i64 e] 101)) (w.heap.size + 1) 101 [.int .i64 m, .int .i64 e] := by simpa using (BoxAt.new (w.alloc (.cells #[.int .i64 n, .int .i64 d] 101)) 101 [.int .i64 m, .int .i64 e])
  have hs0 := (Same.alloc (Same.alloc (Same.refl w) (.cells #[.int .i64 n, .int .i64 d] 101)) (.cells #[.int .i64 m, .int .i64 e] 101))
  generalize ((w.alloc (.cells #[.int .i64 n, .int .i64 d] 101)).alloc (.cells #[.int .i64 m, .int .i64 e] 101)) = w0 at *
  refine (iFracOk_any n d _).mono ?_
  rw [M1.out]
  rintro e' w2 ⟨rfl, hs2⟩
  have y0 := (h2.same hs2).cell 0 rfl
  have y1 := (h2.same hs2).cell 1 rfl
  have yL := (h2.same hs2).lt
  go_wp2_with fail
  clear y0 y1 yL
  refine (iFracOk_any m e _).mono ?_
  rw [M2.out]
  rintro e' w3 ⟨rfl, hs3⟩
  have S3 := (hs0.trans hs2).trans hs3
  have T3 := hs2.trans hs3
  replace h1 := h1.same T3
  replace h2 := h2.same T3
  clear T3 hs3 hs2 hs0
  have y0 := h1.cell 0 rfl
  have y1 := h1.cell 1 rfl
  have yL := h1.lt
  have u0 := h2.cell 0 rfl
  have u1 := h2.cell 1 rfl
  have uL := h2.lt
  go_wp2_with fail
  refine (compare_any u q _).mono ?_
  rw [← HR.out]
  rintro e' w4 ⟨rfl, rfl⟩
  go_wp2
  go_ret
  exact ⟨rfl, S3⟩
end Go.Proofs.YtjfmknhnplefnaaGreat
end

section
/-
  Products and quotients of fractions (the program's side); ages.
-/
namespace Go.Proofs.YtjfmknhnplefnaaGreat
open Go.RowKit
set_option linter.unusedVariables false
set_option linter.unusedSimpArgs false

set_option maxRecDepth 10000 in
set_option maxHeartbeats 1000000 in
theorem areFactors_any (n d m e : Int) (w : World) :
    Calls Tryz.prog 217 #[.agg #[.int .i64 n, .int .i64 d], .agg #[.int .i64 m, .int .i64 e]] w fun e' w' => e' = .returned (.bool (factorB (n, d) && factorB (m, e))) ∧ Same w w' := by
  have HR := Lib.hid (show (factorB (n, d) && factorB (m, e)) = (fracOk n d && fracOk m e && inB n (-1000000) 1000000 && inB m (-1000000) 1000000) by
    simp only [factorB]
    cases fracOk n d <;> cases fracOk m e <;> cases inB n (-1000000) 1000000 <;> cases inB m (-1000000) 1000000 <;> rfl)
  cases m1 : fracOk n d
  · have HV := Lib.hid (show (factorB (n, d) && factorB (m, e)) = false by rw [HR.out, m1]; rfl)
    go_enter Tryz.func217, Tryz.ntmps217
    go_wp2_with fail
    have hs0 := (Same.alloc (Same.alloc (Same.refl w) (.cells #[.int .i64 n, .int .i64 d] 101)) (.cells #[.int .i64 m, .int .i64 e] 101))
    generalize ((w.alloc (.cells #[.int .i64 n, .int .i64 d] 101)).alloc (.cells #[.int .i64 m, .int .i64 e] 101)) = w0 at *
    refine (iFracOk_any n d _).mono ?_
    rw [m1]
    rintro e' w1 ⟨rfl, hs1⟩
    go_wp2
    go_ret
    exact ⟨ret_bool HV.out.symm, hs0.trans hs1⟩
  cases m2 : fracOk m e
  · have HV := Lib.hid (show (factorB (n, d) && factorB (m, e)) = false by rw [HR.out, m1, m2]; rfl)
    go_enter Tryz.func217, Tryz.ntmps217
    go_wp2_with fail
    have h2 : BoxAt ((w.alloc (.cells #[.int .i64 n, .int .i64 d] 101)).alloc (.cells #[.int .i64 m, .int .i64 e] 101)) (w.heap.size + 1) 101 [.int .i64 m, .int .i64 e] := by simpa using (BoxAt.new (w.alloc (.cells #[.int .i64 n, .int .i64 d] 101)) 101 [.int .i64 m, .int .i64 e])
    have hs0 := (Same.alloc (Same.alloc (Same.refl w) (.cells #[.int .i64 n, .int .i64 d] 101)) (.cells #[.int .i64 m, .int .i64 e] 101))
    generalize ((w.alloc (.cells #[.int .i64 n, .int .i64 d] 101)).alloc (.cells #[.int .i64 m, .int .i64 e] 101)) = w0 at *
    refine (iFracOk_any n d _).mono ?_
    rw [m1]
    rintro e' w1 ⟨rfl, hs1⟩
    have y0 := (h2.same hs1).cell 0 rfl
    have y1 := (h2.same hs1).cell 1 rfl
    have yL := (h2.same hs1).lt
    go_wp2_with fail
    refine (iFracOk_any m e _).mono ?_
    rw [m2]
    rintro e' w2 ⟨rfl, hs2⟩
    clear y0 y1 yL
    go_wp2
    go_ret
    exact ⟨ret_bool HV.out.symm, (hs0.trans hs1).trans hs2⟩
  have HV := Lib.hid (show (factorB (n, d) && factorB (m, e)) = (inB n (-1000000) 1000000 && inB m (-1000000) 1000000) by rw [HR.out, m1, m2]; rfl)
  have M1 := Lib.hid m1
  have M2 := Lib.hid m2
  clear m1 m2
  go_enter Tryz.func217, Tryz.ntmps217
  go_wp2_with fail
  have h1 : BoxAt ((w.alloc (.cells #[.int .i64 n, .int .i64 d] 101)).alloc (.cells #[.int .i64 m, .int .i64 e] 101)) (w.heap.size) 101 [.int .i64 n, .int .i64 d] := by simpa using (BoxAt.alloc (BoxAt.new w 101 [.int .i64 n, .int .i64 d]) (.cells #[.int .i64 m, .int .i64 e] 101))
  have h2 : BoxAt ((w.alloc (.cells #[.int .i64 n, .int .i64 d] 101)).alloc (.cells #[.int .i64 m, .int .i64 e] 101)) (w.heap.size + 1) 101 [.int .i64 m, .int .i64 e] := by simpa using (BoxAt.new (w.alloc (.cells #[.int .i64 n, .int .i64 d] 101)) 101 [.int .i64 m, .int .i64 e])
  have hs0 := (Same.alloc (Same.alloc (Same.refl w) (.cells #[.int .i64 n, .int .i64 d] 101)) (.cells #[.int .i64 m, .int .i64 e] 101))
  generalize ((w.alloc (.cells #[.int .i64 n, .int .i64 d] 101)).alloc (.cells #[.int .i64 m, .int .i64 e] 101)) = w0 at *
  refine (iFracOk_any n d _).mono ?_
  rw [M1.out]
  rintro e' w2 ⟨rfl, hs2⟩
  have y0 := (h2.same hs2).cell 0 rfl
  have y1 := (h2.same hs2).cell 1 rfl
  have yL := (h2.same hs2).lt
  go_wp2_with fail
  clear y0 y1 yL
  refine (iFracOk_any m e _).mono ?_
  rw [M2.out]
  rintro e' w3 ⟨rfl, hs3⟩
  have S3 := (hs0.trans hs2).trans hs3
  have T3 := hs2.trans hs3
  replace h1 := h1.same T3
  replace h2 := h2.same T3
  clear T3 hs3 hs2 hs0
  have y0 := h1.cell 0 rfl
  have y1 := h1.cell 1 rfl
  have yL := h1.lt
  have u0 := h2.cell 0 rfl
  have u1 := h2.cell 1 rfl
  have uL := h2.lt
  go_wp2_with (go_at_call 110; refine (within_any _ _ _ _).mono ?_; rintro e w' ⟨rfl, rfl⟩)
  all_goals go_ret
  all_goals exact ⟨ret_bool (by rw [HV.out]; simp [*]), S3⟩

set_option maxRecDepth 10000 in
set_option maxHeartbeats 1000000 in
theorem iFracMul_no (n d m e : Int) (w : World) (h : (factorB (n, d) && factorB (m, e)) = false) :
    Calls Tryz.prog 207 #[.agg #[.int .i64 n, .int .i64 d], .agg #[.int .i64 m, .int .i64 e]] w fun e' w' => e' = .returned (.tuple #[.agg #[.int .i64 0, .int .i64 0], .bool false]) ∧ Same w w' := by
  go_enter Tryz.func207, Tryz.ntmps207
  go_wp2_with fail
  have h3 : BoxAt (((w.alloc (.cells #[.int .i64 n, .int .i64 d] 101)).alloc (.cells #[.int .i64 m, .int .i64 e] 101)).alloc (.cells #[.int .i64 0, .int .i64 0] 101)) (w.heap.size + 1 + 1) 101 [.int .i64 0, .int .i64 0] := by simpa using (BoxAt.new ((w.alloc (.cells #[.int .i64 n, .int .i64 d] 101)).alloc (.cells #[.int .i64 m, .int .i64 e] 101)) 101 [.int .i64 0, .int .i64 0])
  have hs0 := (Same.alloc (Same.alloc (Same.alloc (Same.refl w) (.cells #[.int .i64 n, .int .i64 d] 101)) (.cells #[.int .i64 m, .int .i64 e] 101)) (.cells #[.int .i64 0, .int .i64 0] 101))
  generalize (((w.alloc (.cells #[.int .i64 n, .int .i64 d] 101)).alloc (.cells #[.int .i64 m, .int .i64 e] 101)).alloc (.cells #[.int .i64 0, .int .i64 0] 101)) = w0 at *
  refine (areFactors_any n d m e _).mono ?_
  rw [h]
  rintro e' w1 ⟨rfl, hs1⟩
  replace h3 := h3.same hs1
  have S1 := hs0.trans hs1
  have x0 := h3.cell 0 rfl
  have x1 := h3.cell 1 rfl
  have xf0 := h3.frozen 0
  have xf1 := h3.frozen 1
  have xL := h3.lt
  go_wp2
  have h9 := (h3.set 0 (.int .i64 0)).set 1 (.int .i64 0)
  have S9 := (S1.setCell (p := ⟨(w.heap.size + 1 + 1), 0, none⟩) (show w.heap.size ≤ w.heap.size + 1 + 1 by omega) (.int .i64 0)).setCell (p := ⟨(w.heap.size + 1 + 1), 1, none⟩) (show w.heap.size ≤ w.heap.size + 1 + 1 by omega) (.int .i64 0)
  generalize (w1.setCell ⟨(w.heap.size + 1 + 1), 0, none⟩ (.int .i64 0)).setCell ⟨(w.heap.size + 1 + 1), 1, none⟩ (.int .i64 0) = w9 at *
  have z0 := h9.cell 0 rfl
  have z1 := h9.cell 1 rfl
  exact bodyPost_ret (v := .tuple #[.agg #[.int .i64 0, .int .i64 0], .bool false]) (by simp [results, Tryz.results207, go_sem, z0, z1]) rfl ⟨rfl, S9⟩

set_option maxRecDepth 10000 in
set_option maxHeartbeats 1000000 in
theorem iFracDiv_no (n d m e : Int) (w : World) (h : (factorB (n, d) && factorB (m, e)) = false) :
    Calls Tryz.prog 208 #[.agg #[.int .i64 n, .int .i64 d], .agg #[.int .i64 m, .int .i64 e]] w fun e' w' => e' = .returned (.tuple #[.agg #[.int .i64 0, .int .i64 0], .bool false]) ∧ Same w w' := by
  go_enter Tryz.func208, Tryz.ntmps208
  go_wp2_with fail
  have h3 : BoxAt (((w.alloc (.cells #[.int .i64 n, .int .i64 d] 101)).alloc (.cells #[.int .i64 m, .int .i64 e] 101)).alloc (.cells #[.int .i64 0, .int .i64 0] 101)) (w.heap.size + 1 + 1) 101 [.int .i64 0, .int .i64 0] := by simpa using (BoxAt.new ((w.alloc (.cells #[.int .i64 n, .int .i64 d] 101)).alloc (.cells #[.int .i64 m, .int .i64 e] 101)) 101 [.int .i64 0, .int .i64 0])
  have hs0 := (Same.alloc (Same.alloc (Same.alloc (Same.refl w) (.cells #[.int .i64 n, .int .i64 d] 101)) (.cells #[.int .i64 m, .int .i64 e] 101)) (.cells #[.int .i64 0, .int .i64 0] 101))
  generalize (((w.alloc (.cells #[.int .i64 n, .int .i64 d] 101)).alloc (.cells #[.int .i64 m, .int .i64 e] 101)).alloc (.cells #[.int .i64 0, .int .i64 0] 101)) = w0 at *
  refine (areFactors_any n d m e _).mono ?_
  rw [h]
  rintro e' w1 ⟨rfl, hs1⟩
  replace h3 := h3.same hs1
  have S1 := hs0.trans hs1
  have x0 := h3.cell 0 rfl
  have x1 := h3.cell 1 rfl
  have xf0 := h3.frozen 0
  have xf1 := h3.frozen 1
  have xL := h3.lt
  go_wp2
  have h9 := (h3.set 0 (.int .i64 0)).set 1 (.int .i64 0)
  have S9 := (S1.setCell (p := ⟨(w.heap.size + 1 + 1), 0, none⟩) (show w.heap.size ≤ w.heap.size + 1 + 1 by omega) (.int .i64 0)).setCell (p := ⟨(w.heap.size + 1 + 1), 1, none⟩) (show w.heap.size ≤ w.heap.size + 1 + 1 by omega) (.int .i64 0)
  generalize (w1.setCell ⟨(w.heap.size + 1 + 1), 0, none⟩ (.int .i64 0)).setCell ⟨(w.heap.size + 1 + 1), 1, none⟩ (.int .i64 0) = w9 at *
  have z0 := h9.cell 0 rfl
  have z1 := h9.cell 1 rfl
  exact bodyPost_ret (v := .tuple #[.agg #[.int .i64 0, .int .i64 0], .bool false]) (by simp [results, Tryz.results208, go_sem, z0, z1]) rfl ⟨rfl, S9⟩

set_option maxRecDepth 10000 in
set_option maxHeartbeats 1000000 in
theorem iFracDiv_zero (n d m e : Int) (w : World) (h : (factorB (n, d) && factorB (m, e)) = true) (h0 : m = 0) :
    Calls Tryz.prog 208 #[.agg #[.int .i64 n, .int .i64 d], .agg #[.int .i64 m, .int .i64 e]] w fun e' w' => e' = .returned (.tuple #[.agg #[.int .i64 0, .int .i64 0], .bool false]) ∧ Same w w' := by
  have b0 : (m == 0) = true := by simp [h0]
  clear h0
  go_enter Tryz.func208, Tryz.ntmps208
  go_wp2_with fail
  have h2 : BoxAt (((w.alloc (.cells #[.int .i64 n, .int .i64 d] 101)).alloc (.cells #[.int .i64 m, .int .i64 e] 101)).alloc (.cells #[.int .i64 0, .int .i64 0] 101)) (w.heap.size + 1) 101 [.int .i64 m, .int .i64 e] := by simpa using (BoxAt.alloc (BoxAt.new (w.alloc (.cells #[.int .i64 n, .int .i64 d] 101)) 101 [.int .i64 m, .int .i64 e]) (.cells #[.int .i64 0, .int .i64 0] 101))
  have h3 : BoxAt (((w.alloc (.cells #[.int .i64 n, .int .i64 d] 101)).alloc (.cells #[.int .i64 m, .int .i64 e] 101)).alloc (.cells #[.int .i64 0, .int .i64 0] 101)) (w.heap.size + 1 + 1) 101 [.int .i64 0, .int .i64 0] := by simpa using (BoxAt.new ((w.alloc (.cells #[.int .i64 n, .int .i64 d] 101)).alloc (.cells #[.int .i64 m, .int .i64 e] 101)) 101 [.int .i64 0, .int .i64 0])
  have hs0 := (Same.alloc (Same.alloc (Same.alloc (Same.refl w) (.cells #[.int .i64 n, .int .i64 d] 101)) (.cells #[.int .i64 m, .int .i64 e] 101)) (.cells #[.int .i64 0, .int .i64 0] 101))
  generalize (((w.alloc (.cells #[.int .i64 n, .int .i64 d] 101)).alloc (.cells #[.int .i64 m, .int .i64 e] 101)).alloc (.cells #[.int .i64 0, .int .i64 0] 101)) = w0 at *
  refine (areFactors_any n d m e _).mono ?_
  rw [h]
  rintro e' w1 ⟨rfl, hs1⟩
  replace h3 := h3.same hs1
  replace h2 := h2.same hs1
  have S1 := hs0.trans hs1
  have x0 := h3.cell 0 rfl
  have x1 := h3.cell 1 rfl
  have xf0 := h3.frozen 0
  have xf1 := h3.frozen 1
  have xL := h3.lt
  have u0 := h2.cell 0 rfl
  have u1 := h2.cell 1 rfl
  have uL := h2.lt
  go_wp2
  have h9 := (h3.set 0 (.int .i64 0)).set 1 (.int .i64 0)
  have S9 := (S1.setCell (p := ⟨(w.heap.size + 1 + 1), 0, none⟩) (show w.heap.size ≤ w.heap.size + 1 + 1 by omega) (.int .i64 0)).setCell (p := ⟨(w.heap.size + 1 + 1), 1, none⟩) (show w.heap.size ≤ w.heap.size + 1 + 1 by omega) (.int .i64 0)
  generalize (w1.setCell ⟨(w.heap.size + 1 + 1), 0, none⟩ (.int .i64 0)).setCell ⟨(w.heap.size + 1 + 1), 1, none⟩ (.int .i64 0) = w9 at *
  have z0 := h9.cell 0 rfl
  have z1 := h9.cell 1 rfl
  exact bodyPost_ret (v := .tuple #[.agg #[.int .i64 0, .int .i64 0], .bool false]) (by simp [results, Tryz.results208, go_sem, z0, z1]) rfl ⟨rfl, S9⟩

set_option maxRecDepth 10000 in
set_option maxHeartbeats 1000000 in
theorem iFracMul_yes (n d m e : Int) (w : World) (h : (factorB (n, d) && factorB (m, e)) = true) :
    Calls Tryz.prog 207 #[.agg #[.int .i64 n, .int .i64 d], .agg #[.int .i64 m, .int .i64 e]] w fun e' w' => e' = .returned (.tuple #[.agg #[.int .i64 (fracMul (n, d) (m, e)).1, .int .i64 (fracMul (n, d) (m, e)).2.1], .bool (fracMul (n, d) (m, e)).2.2]) ∧ Same w w' := by
  have hh := h
  rw [Bool.and_eq_true] at hh
  have j1 := factorB_iff.1 hh.1
  have j2 := factorB_iff.1 hh.2
  have i1 := fracOk_iff.1 j1.1
  have i2 := fracOk_iff.1 j2.1
  have HR := Lib.hid (show fracMul (n, d) (m, e) = lowest (n * m) (d * e) by simp [fracMul, h])
  clear hh
  have hu := natAbs_mul_le (x := n) (y := m) (X := 1000000) (Y := 1000000) (by omega) (by omega)
  have hq := natAbs_mul_le (x := d) (y := e) (X := 1000000) (Y := 1000000) (by omega) (by omega)
  have hq0 : d * e ≠ 0 := fun h => by rcases Int.mul_eq_zero.1 h with h | h <;> omega
  obtain ⟨u, eu⟩ : ∃ u, n * m = u := ⟨_, rfl⟩
  obtain ⟨q, eq⟩ : ∃ q, d * e = q := ⟨_, rfl⟩
  rw [eu] at hu HR
  rw [eq] at hq hq0 HR

  go_enter Tryz.func207, Tryz.ntmps207
  go_wp2_with fail
  have h1 : BoxAt (((w.alloc (.cells #[.int .i64 n, .int .i64 d] 101)).alloc (.cells #[.int .i64 m, .int .i64 e] 101)).alloc (.cells #[.int .i64 0, .int .i64 0] 101)) (w.heap.size) 101 [.int .i64 n, .int .i64 d] := by simpa using (BoxAt.alloc (BoxAt.alloc (BoxAt.new w 101 [.int .i64 n, .int .i64 d]) (.cells #[.int .i64 m, .int .i64 e] 101)) (.cells #[.int .i64 0, .int .i64 0] 101))
  have h2 : BoxAt (((w.alloc (.cells #[.int .i64 n, .int .i64 d] 101)).alloc (.cells #[.int .i64 m, .int .i64 e] 101)).alloc (.cells #[.int .i64 0, .int .i64 0] 101)) (w.heap.size + 1) 101 [.int .i64 m, .int .i64 e] := by simpa using (BoxAt.alloc (BoxAt.new (w.alloc (.cells #[.int .i64 n, .int .i64 d] 101)) 101 [.int .i64 m, .int .i64 e]) (.cells #[.int .i64 0, .int .i64 0] 101))
  have h3 : BoxAt (((w.alloc (.cells #[.int .i64 n, .int .i64 d] 101)).alloc (.cells #[.int .i64 m, .int .i64 e] 101)).alloc (.cells #[.int .i64 0, .int .i64 0] 101)) (w.heap.size + 1 + 1) 101 [.int .i64 0, .int .i64 0] := by simpa using (BoxAt.new ((w.alloc (.cells #[.int .i64 n, .int .i64 d] 101)).alloc (.cells #[.int .i64 m, .int .i64 e] 101)) 101 [.int .i64 0, .int .i64 0])
  have hs0 := (Same.alloc (Same.alloc (Same.alloc (Same.refl w) (.cells #[.int .i64 n, .int .i64 d] 101)) (.cells #[.int .i64 m, .int .i64 e] 101)) (.cells #[.int .i64 0, .int .i64 0] 101))
  generalize (((w.alloc (.cells #[.int .i64 n, .int .i64 d] 101)).alloc (.cells #[.int .i64 m, .int .i64 e] 101)).alloc (.cells #[.int .i64 0, .int .i64 0] 101)) = w0 at *
  refine (areFactors_any n d m e _).mono ?_
  rw [h]
  rintro e' w1 ⟨rfl, hs1⟩
  replace h1 := h1.same hs1
  replace h2 := h2.same hs1
  replace h3 := h3.same hs1
  have S1 := hs0.trans hs1
  clear h j1 j2
  have y0 := h1.cell 0 rfl
  have y1 := h1.cell 1 rfl
  have yL := h1.lt
  have u0 := h2.cell 0 rfl
  have u1 := h2.cell 1 rfl
  have uL := h2.lt
  have x0 := h3.cell 0 rfl
  have x1 := h3.cell 1 rfl
  have xf0 := h3.frozen 0
  have xf1 := h3.frozen 1
  have xL := h3.lt
  go_wp2_with fail
  refine (reduced_any u q _ (by omega) (by omega) (by omega)).mono ?_
  rw [← HR.out]
  rintro e' w4 ⟨rfl, hs4⟩
  replace h3 := h3.same hs4
  have S4 := S1.trans hs4
  clear x0 x1 xf0 xf1 xL y0 y1 yL u0 u1 uL
  have x0 := h3.cell 0 rfl
  have x1 := h3.cell 1 rfl
  have xf0 := h3.frozen 0
  have xf1 := h3.frozen 1
  have xL := h3.lt
  go_wp2
  have h9 := (h3.set 0 (.int .i64 (fracMul (n, d) (m, e)).1)).set 1 (.int .i64 (fracMul (n, d) (m, e)).2.1)
  have S9 := (S4.setCell (p := ⟨(w.heap.size + 1 + 1), 0, none⟩) (show w.heap.size ≤ w.heap.size + 1 + 1 by omega) (.int .i64 (fracMul (n, d) (m, e)).1)).setCell (p := ⟨(w.heap.size + 1 + 1), 1, none⟩) (show w.heap.size ≤ w.heap.size + 1 + 1 by omega) (.int .i64 (fracMul (n, d) (m, e)).2.1)
  generalize (w4.setCell ⟨(w.heap.size + 1 + 1), 0, none⟩ (.int .i64 (fracMul (n, d) (m, e)).1)).setCell ⟨(w.heap.size + 1 + 1), 1, none⟩ (.int .i64 (fracMul (n, d) (m, e)).2.1) = w9 at *
  have z0 := h9.cell 0 rfl
  have z1 := h9.cell 1 rfl
  exact bodyPost_ret (v := .tuple #[.agg #[.int .i64 (fracMul (n, d) (m, e)).1, .int .i64 (fracMul (n, d) (m, e)).2.1], .bool (fracMul (n, d) (m, e)).2.2]) (by simp [results, Tryz.results207, go_sem, z0, z1]) rfl ⟨rfl, S9⟩

set_option maxRecDepth 10000 in
set_option maxHeartbeats 1000000 in
theorem iFracDiv_yes (n d m e : Int) (w : World) (h : (factorB (n, d) && factorB (m, e)) = true) (h0 : m ≠ 0) :
    Calls Tryz.prog 208 #[.agg #[.int .i64 n, .int .i64 d], .agg #[.int .i64 m, .int .i64 e]] w fun e' w' => e' = .returned (.tuple #[.agg #[.int .i64 (fracDiv (n, d) (m, e)).1, .int .i64 (fracDiv (n, d) (m, e)).2.1], .bool (fracDiv (n, d) (m, e)).2.2]) ∧ Same w w' := by
  have hh := h
  rw [Bool.and_eq_true] at hh
  have j1 := factorB_iff.1 hh.1
  have j2 := factorB_iff.1 hh.2
  have i1 := fracOk_iff.1 j1.1
  have i2 := fracOk_iff.1 j2.1
  have HR := Lib.hid (show fracDiv (n, d) (m, e) = lowest (n * e) (d * m) by simp [fracDiv, h, h0])
  clear hh
  have hu := natAbs_mul_le (x := n) (y := e) (X := 1000000) (Y := 1000000) (by omega) (by omega)
  have hq := natAbs_mul_le (x := d) (y := m) (X := 1000000) (Y := 1000000) (by omega) (by omega)
  have hq0 : d * m ≠ 0 := fun h => by rcases Int.mul_eq_zero.1 h with h | h <;> omega
  obtain ⟨u, eu⟩ : ∃ u, n * e = u := ⟨_, rfl⟩
  obtain ⟨q, eq⟩ : ∃ q, d * m = q := ⟨_, rfl⟩
  rw [eu] at hu HR
  rw [eq] at hq hq0 HR
  have b0 : (m == 0) = false := by simp [h0]
  go_enter Tryz.func208, Tryz.ntmps208
  go_wp2_with fail
  have h1 : BoxAt (((w.alloc (.cells #[.int .i64 n, .int .i64 d] 101)).alloc (.cells #[.int .i64 m, .int .i64 e] 101)).alloc (.cells #[.int .i64 0, .int .i64 0] 101)) (w.heap.size) 101 [.int .i64 n, .int .i64 d] := by simpa using (BoxAt.alloc (BoxAt.alloc (BoxAt.new w 101 [.int .i64 n, .int .i64 d]) (.cells #[.int .i64 m, .int .i64 e] 101)) (.cells #[.int .i64 0, .int .i64 0] 101))
  have h2 : BoxAt (((w.alloc (.cells #[.int .i64 n, .int .i64 d] 101)).alloc (.cells #[.int .i64 m, .int .i64 e] 101)).alloc (.cells #[.int .i64 0, .int .i64 0] 101)) (w.heap.size + 1) 101 [.int .i64 m, .int .i64 e] := by simpa using (BoxAt.alloc (BoxAt.new (w.alloc (.cells #[.int .i64 n, .int .i64 d] 101)) 101 [.int .i64 m, .int .i64 e]) (.cells #[.int .i64 0, .int .i64 0] 101))
  have h3 : BoxAt (((w.alloc (.cells #[.int .i64 n, .int .i64 d] 101)).alloc (.cells #[.int .i64 m, .int .i64 e] 101)).alloc (.cells #[.int .i64 0, .int .i64 0] 101)) (w.heap.size + 1 + 1) 101 [.int .i64 0, .int .i64 0] := by simpa using (BoxAt.new ((w.alloc (.cells #[.int .i64 n, .int .i64 d] 101)).alloc (.cells #[.int .i64 m, .int .i64 e] 101)) 101 [.int .i64 0, .int .i64 0])
  have hs0 := (Same.alloc (Same.alloc (Same.alloc (Same.refl w) (.cells #[.int .i64 n, .int .i64 d] 101)) (.cells #[.int .i64 m, .int .i64 e] 101)) (.cells #[.int .i64 0, .int .i64 0] 101))
  generalize (((w.alloc (.cells #[.int .i64 n, .int .i64 d] 101)).alloc (.cells #[.int .i64 m, .int .i64 e] 101)).alloc (.cells #[.int .i64 0, .int .i64 0] 101)) = w0 at *
  refine (areFactors_any n d m e _).mono ?_
  rw [h]
  rintro e' w1 ⟨rfl, hs1⟩
  replace h1 := h1.same hs1
  replace h2 := h2.same hs1
  replace h3 := h3.same hs1
  have S1 := hs0.trans hs1
  clear h j1 j2
  have y0 := h1.cell 0 rfl
  have y1 := h1.cell 1 rfl
  have yL := h1.lt
  have u0 := h2.cell 0 rfl
  have u1 := h2.cell 1 rfl
  have uL := h2.lt
  have x0 := h3.cell 0 rfl
  have x1 := h3.cell 1 rfl
  have xf0 := h3.frozen 0
  have xf1 := h3.frozen 1
  have xL := h3.lt
  go_wp2_with fail
  refine (reduced_any u q _ (by omega) (by omega) (by omega)).mono ?_
  rw [← HR.out]
  rintro e' w4 ⟨rfl, hs4⟩
  replace h3 := h3.same hs4
  have S4 := S1.trans hs4
  clear x0 x1 xf0 xf1 xL y0 y1 yL u0 u1 uL
  have x0 := h3.cell 0 rfl
  have x1 := h3.cell 1 rfl
  have xf0 := h3.frozen 0
  have xf1 := h3.frozen 1
  have xL := h3.lt
  go_wp2
  have h9 := (h3.set 0 (.int .i64 (fracDiv (n, d) (m, e)).1)).set 1 (.int .i64 (fracDiv (n, d) (m, e)).2.1)
  have S9 := (S4.setCell (p := ⟨(w.heap.size + 1 + 1), 0, none⟩) (show w.heap.size ≤ w.heap.size + 1 + 1 by omega) (.int .i64 (fracDiv (n, d) (m, e)).1)).setCell (p := ⟨(w.heap.size + 1 + 1), 1, none⟩) (show w.heap.size ≤ w.heap.size + 1 + 1 by omega) (.int .i64 (fracDiv (n, d) (m, e)).2.1)
  generalize (w4.setCell ⟨(w.heap.size + 1 + 1), 0, none⟩ (.int .i64 (fracDiv (n, d) (m, e)).1)).setCell ⟨(w.heap.size + 1 + 1), 1, none⟩ (.int .i64 (fracDiv (n, d) (m, e)).2.1) = w9 at *
  have z0 := h9.cell 0 rfl
  have z1 := h9.cell 1 rfl
  exact bodyPost_ret (v := .tuple #[.agg #[.int .i64 (fracDiv (n, d) (m, e)).1, .int .i64 (fracDiv (n, d) (m, e)).2.1], .bool (fracDiv (n, d) (m, e)).2.2]) (by simp [results, Tryz.results208, go_sem, z0, z1]) rfl ⟨rfl, S9⟩

theorem iFracMul_any (n d m e : Int) (w : World) :
    Calls Tryz.prog 207 #[.agg #[.int .i64 n, .int .i64 d], .agg #[.int .i64 m, .int .i64 e]] w fun e' w' => e' = .returned (.tuple #[.agg #[.int .i64 (fracMul (n, d) (m, e)).1, .int .i64 (fracMul (n, d) (m, e)).2.1], .bool (fracMul (n, d) (m, e)).2.2]) ∧ Same w w' := by
  cases h : factorB (n, d) && factorB (m, e)
  · refine (iFracMul_no n d m e w h).mono ?_
    rintro e' w' ⟨rfl, hw⟩
    have hz : fracMul (n, d) (m, e) = (0, 0, false) := by unfold fracMul; rw [h]; rfl
    rw [hz]
    exact ⟨rfl, hw⟩
  · exact iFracMul_yes n d m e w h

theorem iFracDiv_any (n d m e : Int) (w : World) :
    Calls Tryz.prog 208 #[.agg #[.int .i64 n, .int .i64 d], .agg #[.int .i64 m, .int .i64 e]] w fun e' w' => e' = .returned (.tuple #[.agg #[.int .i64 (fracDiv (n, d) (m, e)).1, .int .i64 (fracDiv (n, d) (m, e)).2.1], .bool (fracDiv (n, d) (m, e)).2.2]) ∧ Same w w' := by
  cases h : factorB (n, d) && factorB (m, e)
  · refine (iFracDiv_no n d m e w h).mono ?_
    rintro e' w' ⟨rfl, hw⟩
    have hz : fracDiv (n, d) (m, e) = (0, 0, false) := by unfold fracDiv; rw [h]; rfl
    rw [hz]
    exact ⟨rfl, hw⟩
  · by_cases h0 : m = 0
    · refine (iFracDiv_zero n d m e w h h0).mono ?_
      rintro e' w' ⟨rfl, hw⟩
      have hz : fracDiv (n, d) (m, e) = (0, 0, false) := by unfold fracDiv; simp [h0]
      rw [hz]
      exact ⟨rfl, hw⟩
    · exact iFracDiv_yes n d m e w h h0

set_option maxHeartbeats 1000000 in
theorem sAgeAt_any (b m : Int) (w : World) : Calls Tryz.prog 139 #[.int .i64 b, .int .i64 m, .int .i64 1] w fun e w' => e = .returned (.int .i64 (ageDone b m)) ∧ w = w' := by
  have HR := Lib.hid (show ageDone b m = if inB b 0 3599 && inB m 0 3599 && decide (b ≤ m) then (m - b) / 12 else -1 from rfl)
  cases m1 : inB b 0 3599
  · have HV := Lib.hid (show ageDone b m = -1 by rw [HR.out, m1]; rfl)
    go_enter Tryz.func139, Tryz.ntmps139
    go_wp2_with fail
    refine (sMonthOk_any _ _).mono ?_
    rw [m1]
    rintro e w1 ⟨rfl, rfl⟩
    go_wp2
    go_ret
    exact ⟨ret_int HV.out.symm, rfl⟩
  cases m2 : inB m 0 3599
  · have HV := Lib.hid (show ageDone b m = -1 by rw [HR.out, m1, m2]; rfl)
    go_enter Tryz.func139, Tryz.ntmps139
    go_wp2_with fail
    refine (sMonthOk_any _ _).mono ?_
    rw [m1]
    rintro e w1 ⟨rfl, rfl⟩
    go_wp2_with fail
    refine (sMonthOk_any _ _).mono ?_
    rw [m2]
    rintro e w1 ⟨rfl, rfl⟩
    go_wp2
    go_ret
    exact ⟨ret_int HV.out.symm, rfl⟩
  have i1 := inB_iff.1 m1
  have i2 := inB_iff.1 m2
  have HV := Lib.hid (show ageDone b m = if b ≤ m then (m - b) / 12 else -1 by rw [HR.out, m1, m2]; simp)
  have M1 := Lib.hid m1
  have M2 := Lib.hid m2
  clear m1 m2
  by_cases h : b ≤ m
  all_goals
    go_enter Tryz.func139, Tryz.ntmps139
    go_wp2_with fail
    refine (sMonthOk_any _ _).mono ?_
    rw [M1.out]
    rintro e w1 ⟨rfl, rfl⟩
    go_wp2_with fail
    refine (sMonthOk_any _ _).mono ?_
    rw [M2.out]
    rintro e w1 ⟨rfl, rfl⟩
    go_wp2
    go_ret
    exact ⟨ret_int (by rw [HV.out]; split <;> first | rfl | omega), rfl⟩

set_option maxHeartbeats 1000000 in
theorem iAgeAt_any (b m : Int) (w : World) : Calls Tryz.prog 65 #[.int .i64 b, .int .i64 m, .int .i64 1] w fun e w' => e = .returned (.int .i64 (ageDone b m)) ∧ w = w' := by
  have HR := Lib.hid (show ageDone b m = if inB b 0 3599 && inB m 0 3599 && decide (b ≤ m) then (m - b) / 12 else -1 from rfl)
  cases m1 : inB b 0 3599
  · have HV := Lib.hid (show ageDone b m = -1 by rw [HR.out, m1]; rfl)
    go_enter Tryz.func65, Tryz.ntmps65
    go_wp2_with fail
    refine (iMonthOk_any _ _).mono ?_
    rw [m1]
    rintro e w1 ⟨rfl, rfl⟩
    go_wp2
    go_ret
    exact ⟨ret_int HV.out.symm, rfl⟩
  cases m2 : inB m 0 3599
  · have HV := Lib.hid (show ageDone b m = -1 by rw [HR.out, m1, m2]; rfl)
    go_enter Tryz.func65, Tryz.ntmps65
    go_wp2_with fail
    refine (iMonthOk_any _ _).mono ?_
    rw [m1]
    rintro e w1 ⟨rfl, rfl⟩
    go_wp2_with fail
    refine (iMonthOk_any _ _).mono ?_
    rw [m2]
    rintro e w1 ⟨rfl, rfl⟩
    go_wp2
    go_ret
    exact ⟨ret_int HV.out.symm, rfl⟩
  have i1 := inB_iff.1 m1
  have i2 := inB_iff.1 m2
  have HV := Lib.hid (show ageDone b m = if b ≤ m then (m - b) / 12 else -1 by rw [HR.out, m1, m2]; simp)
  have M1 := Lib.hid m1
  have M2 := Lib.hid m2
  clear m1 m2
  by_cases h : b ≤ m
  all_goals
    go_enter Tryz.func65, Tryz.ntmps65
    go_wp2_with fail
    refine (iMonthOk_any _ _).mono ?_
    rw [M1.out]
    rintro e w1 ⟨rfl, rfl⟩
    go_wp2_with fail
    refine (iMonthOk_any _ _).mono ?_
    rw [M2.out]
    rintro e w1 ⟨rfl, rfl⟩
    go_wp2
    go_ret
    exact ⟨ret_int (by rw [HV.out]; split <;> first | rfl | omega), rfl⟩
end Go.Proofs.YtjfmknhnplefnaaGreat
end

