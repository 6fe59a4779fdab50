/- Joined of FracS, FracS2: what is proved stands ahead of each part. -/
import Derived.Test.YtjfmknhnplefnaaGreatZFrac
import Derived.Test.YtjfmknhnplefnaaGreatZPlain
import Derived.BigRegion
import Derived.Deep.RegionHeld3

section
/-
  Fractions reckoned with (the specification's side).
-/
namespace Go.Proofs.YtjfmknhnplefnaaGreat
open Go.RowKit
set_option linter.unusedVariables false
set_option linter.unusedSimpArgs false

theorem tdiv_abs (p : Int) (g : Nat) : (p.tdiv g).natAbs ≤ p.natAbs := by
  rw [Int.natAbs_tdiv]
  exact Nat.div_le_self _ _

set_option maxRecDepth 10000 in
set_option maxHeartbeats 2000000 in
theorem l02Make_any (n d : Int) (w : World) (hn : n.natAbs ≤ 4611686018427387904) (hd : d.natAbs ≤ 4611686018427387904) (h0 : d ≠ 0) :
    Calls Tryz.prog 174 #[.int .i64 n, .int .i64 d] w fun e w' => e = .returned (.tuple #[.agg #[.int .i64 (lowest n d).1, .int .i64 (lowest n d).2.1], .bool (lowest n d).2.2]) ∧ Same w w' := by
  by_cases hs : d < 0
  · obtain ⟨p, hp⟩ : ∃ p, p = -n := ⟨_, rfl⟩
    obtain ⟨q, hq⟩ : ∃ q, q = -d := ⟨_, rfl⟩
    obtain ⟨g, hg⟩ : ∃ g, g = Int.gcd p q := ⟨_, rfl⟩
    have hp' : p.natAbs ≤ 4611686018427387904 := by omega
    have hq' : 0 ≤ q ∧ q ≤ 4611686018427387904 := by omega
    have hg0 : 0 < g := by rw [hg]; exact Int.gcd_pos_of_ne_zero_right _ (by omega)
    have HR := Lib.hid (show lowest n d = if fracOk (p.tdiv g) (q.tdiv g) = true then (p.tdiv g, q.tdiv g, true) else (0, 0, false) by rw [hg, hp, hq]; simp [lowest, hs])
    have ha := tdiv_abs p g
    have hb := tdiv_abs q g
    obtain ⟨a, haa⟩ : ∃ a, a = p.tdiv g := ⟨_, rfl⟩
    obtain ⟨b, hbb⟩ : ∃ b, b = q.tdiv g := ⟨_, rfl⟩
    have HG := Lib.hid (show ((Int.gcd (p.natAbs : Int) q : Nat) : Int) = (g : Int) by rw [gcd_abs, hg])
    have eA := Lib.hid haa
    have eB := Lib.hid hbb
    rw [← haa] at ha HR
    rw [← hbb] at hb HR
    have HP := Lib.hid hp
    have HQ := Lib.hid hq
    clear hg haa hbb hp hq
    go_enter Tryz.func174, Tryz.ntmps174
    go_wp2_with fail
    rw [← HP.out]
    refine (l02Abs_any p _ hp').mono ?_
    rintro e w1 ⟨rfl, rfl⟩
    go_wp2_with fail
    rw [← HQ.out]
    refine (l02Gcd_any _ q _ (by omega) hq').mono ?_
    rw [HG.out]
    rintro e w1 ⟨rfl, rfl⟩
    have g0 : ((g : Int) == 0) = false := by simp; omega
    have ea := eA.out.symm
    have eb := eB.out.symm
    go_wp2_with fail
    go_region
    have h1 : BoxAt ((w.alloc (.cells #[.int .i64 0, .int .i64 0] 101)).alloc (.cells #[.int .i64 a, .int .i64 b] 101)) (w.heap.size) 101 [.int .i64 0, .int .i64 0] := by simpa using (BoxAt.alloc (BoxAt.new w 101 [.int .i64 0, .int .i64 0]) (.cells #[.int .i64 a, .int .i64 b] 101))
    have h2 : BoxAt ((w.alloc (.cells #[.int .i64 0, .int .i64 0] 101)).alloc (.cells #[.int .i64 a, .int .i64 b] 101)) (w.heap.size + 1) 101 [.int .i64 a, .int .i64 b] := by simpa using (BoxAt.new (w.alloc (.cells #[.int .i64 0, .int .i64 0] 101)) 101 [.int .i64 a, .int .i64 b])
    have hs0 := (Same.alloc (Same.alloc (Same.refl w) (.cells #[.int .i64 0, .int .i64 0] 101)) (.cells #[.int .i64 a, .int .i64 b] 101))
    generalize ((w.alloc (.cells #[.int .i64 0, .int .i64 0] 101)).alloc (.cells #[.int .i64 a, .int .i64 b] 101)) = w0 at *
    have hd0 := (Same.refl w0).drew
    replace h1 := h1.same hd0
    replace h2 := h2.same hd0
    have S1 := hs0.trans hd0
    generalize w0.drew = w1 at *
    clear hd0 hs0
    have y0 := h2.cell 0 rfl
    have y1 := h2.cell 1 rfl
    have yL := h2.lt
    go_wp2_with fail
    refine (sFracOk_any a b _).mono ?_
    rintro e w2 ⟨rfl, hs2⟩
    replace h1 := h1.same hs2
    replace h2 := h2.same hs2
    have S2 := S1.trans hs2
    clear hs2 S1 y0 y1 yL
    have y0 := h2.cell 0 rfl
    have y1 := h2.cell 1 rfl
    have yL := h2.lt
    have x0 := h1.cell 0 rfl
    have x1 := h1.cell 1 rfl
    have xf0 := h1.frozen 0
    have xf1 := h1.frozen 1
    have xL := h1.lt
    cases hk : fracOk a b
    · have HV := Lib.hid (show lowest n d = (0, 0, false) by rw [HR.out, hk]; rfl)
      clear hk
      go_wp2
      have h9 := (h1.set 0 (.int .i64 0)).set 1 (.int .i64 0)
      have S9 := (S2.setCell (p := ⟨w.heap.size, 0, none⟩) (Nat.le_refl _) (.int .i64 0)).setCell (p := ⟨w.heap.size, 1, none⟩) (Nat.le_refl _) (.int .i64 0)
      generalize (w2.setCell ⟨w.heap.size, 0, none⟩ (.int .i64 0)).setCell ⟨w.heap.size, 1, none⟩ (.int .i64 0) = w9 at *
      have z0 := h9.cell 0 rfl
      have z1 := h9.cell 1 rfl
      exact bodyPost_ret (v := .tuple #[.agg #[.int .i64 0, .int .i64 0], .bool false]) (by simp [results, Tryz.results174, go_sem, z0, z1]) rfl ⟨by rw [HV.out], S9⟩
    · have HV := Lib.hid (show lowest n d = (a, b, true) by rw [HR.out, hk]; rfl)
      clear hk
      go_wp2
      have h9 := (h1.set 0 (.int .i64 a)).set 1 (.int .i64 b)
      have S9 := (S2.setCell (p := ⟨w.heap.size, 0, none⟩) (Nat.le_refl _) (.int .i64 a)).setCell (p := ⟨w.heap.size, 1, none⟩) (Nat.le_refl _) (.int .i64 b)
      generalize (w2.setCell ⟨w.heap.size, 0, none⟩ (.int .i64 a)).setCell ⟨w.heap.size, 1, none⟩ (.int .i64 b) = w9 at *
      have z0 := h9.cell 0 rfl
      have z1 := h9.cell 1 rfl
      exact bodyPost_ret (v := .tuple #[.agg #[.int .i64 a, .int .i64 b], .bool true]) (by simp [results, Tryz.results174, go_sem, z0, z1]) rfl ⟨by rw [HV.out], S9⟩
  · obtain ⟨p, hp⟩ : ∃ p, p = n := ⟨_, rfl⟩
    obtain ⟨q, hq⟩ : ∃ q, q = d := ⟨_, rfl⟩
    obtain ⟨g, hg⟩ : ∃ g, g = Int.gcd p q := ⟨_, rfl⟩
    have hp' : p.natAbs ≤ 4611686018427387904 := by omega
    have hq' : 0 ≤ q ∧ q ≤ 4611686018427387904 := by omega
    have hg0 : 0 < g := by rw [hg]; exact Int.gcd_pos_of_ne_zero_right _ (by omega)
    have HR := Lib.hid (show lowest n d = if fracOk (p.tdiv g) (q.tdiv g) = true then (p.tdiv g, q.tdiv g, true) else (0, 0, false) by rw [hg, hp, hq]; simp [lowest, hs])
    have ha := tdiv_abs p g
    have hb := tdiv_abs q g
    obtain ⟨a, haa⟩ : ∃ a, a = p.tdiv g := ⟨_, rfl⟩
    obtain ⟨b, hbb⟩ : ∃ b, b = q.tdiv g := ⟨_, rfl⟩
    have HG := Lib.hid (show ((Int.gcd (p.natAbs : Int) q : Nat) : Int) = (g : Int) by rw [gcd_abs, hg])
    have eA := Lib.hid haa
    have eB := Lib.hid hbb
    rw [← haa] at ha HR
    rw [← hbb] at hb HR
    have HP := Lib.hid hp
    have HQ := Lib.hid hq
    clear hg haa hbb hp hq
    go_enter Tryz.func174, Tryz.ntmps174
    go_wp2_with fail
    obtain rfl := HP.out
    obtain rfl := HQ.out
    refine (l02Abs_any p _ hp').mono ?_
    rintro e w1 ⟨rfl, rfl⟩
    go_wp2_with fail
    refine (l02Gcd_any _ q _ (by omega) hq').mono ?_
    rw [HG.out]
    rintro e w1 ⟨rfl, rfl⟩
    have g0 : ((g : Int) == 0) = false := by simp; omega
    have ea := eA.out.symm
    have eb := eB.out.symm
    go_wp2_with fail
    go_region
    have h1 : BoxAt ((w.alloc (.cells #[.int .i64 0, .int .i64 0] 101)).alloc (.cells #[.int .i64 a, .int .i64 b] 101)) (w.heap.size) 101 [.int .i64 0, .int .i64 0] := by simpa using (BoxAt.alloc (BoxAt.new w 101 [.int .i64 0, .int .i64 0]) (.cells #[.int .i64 a, .int .i64 b] 101))
    have h2 : BoxAt ((w.alloc (.cells #[.int .i64 0, .int .i64 0] 101)).alloc (.cells #[.int .i64 a, .int .i64 b] 101)) (w.heap.size + 1) 101 [.int .i64 a, .int .i64 b] := by simpa using (BoxAt.new (w.alloc (.cells #[.int .i64 0, .int .i64 0] 101)) 101 [.int .i64 a, .int .i64 b])
    have hs0 := (Same.alloc (Same.alloc (Same.refl w) (.cells #[.int .i64 0, .int .i64 0] 101)) (.cells #[.int .i64 a, .int .i64 b] 101))
    generalize ((w.alloc (.cells #[.int .i64 0, .int .i64 0] 101)).alloc (.cells #[.int .i64 a, .int .i64 b] 101)) = w0 at *
    have hd0 := (Same.refl w0).drew
    replace h1 := h1.same hd0
    replace h2 := h2.same hd0
    have S1 := hs0.trans hd0
    generalize w0.drew = w1 at *
    clear hd0 hs0
    have y0 := h2.cell 0 rfl
    have y1 := h2.cell 1 rfl
    have yL := h2.lt
    go_wp2_with fail
    refine (sFracOk_any a b _).mono ?_
    rintro e w2 ⟨rfl, hs2⟩
    replace h1 := h1.same hs2
    replace h2 := h2.same hs2
    have S2 := S1.trans hs2
    clear hs2 S1 y0 y1 yL
    have y0 := h2.cell 0 rfl
    have y1 := h2.cell 1 rfl
    have yL := h2.lt
    have x0 := h1.cell 0 rfl
    have x1 := h1.cell 1 rfl
    have xf0 := h1.frozen 0
    have xf1 := h1.frozen 1
    have xL := h1.lt
    cases hk : fracOk a b
    · have HV := Lib.hid (show lowest p q = (0, 0, false) by rw [HR.out, hk]; rfl)
      clear hk
      go_wp2
      have h9 := (h1.set 0 (.int .i64 0)).set 1 (.int .i64 0)
      have S9 := (S2.setCell (p := ⟨w.heap.size, 0, none⟩) (Nat.le_refl _) (.int .i64 0)).setCell (p := ⟨w.heap.size, 1, none⟩) (Nat.le_refl _) (.int .i64 0)
      generalize (w2.setCell ⟨w.heap.size, 0, none⟩ (.int .i64 0)).setCell ⟨w.heap.size, 1, none⟩ (.int .i64 0) = w9 at *
      have z0 := h9.cell 0 rfl
      have z1 := h9.cell 1 rfl
      exact bodyPost_ret (v := .tuple #[.agg #[.int .i64 0, .int .i64 0], .bool false]) (by simp [results, Tryz.results174, go_sem, z0, z1]) rfl ⟨by rw [HV.out], S9⟩
    · have HV := Lib.hid (show lowest p q = (a, b, true) by rw [HR.out, hk]; rfl)
      clear hk
      go_wp2
      have h9 := (h1.set 0 (.int .i64 a)).set 1 (.int .i64 b)
      have S9 := (S2.setCell (p := ⟨w.heap.size, 0, none⟩) (Nat.le_refl _) (.int .i64 a)).setCell (p := ⟨w.heap.size, 1, none⟩) (Nat.le_refl _) (.int .i64 b)
      generalize (w2.setCell ⟨w.heap.size, 0, none⟩ (.int .i64 a)).setCell ⟨w.heap.size, 1, none⟩ (.int .i64 b) = w9 at *
      have z0 := h9.cell 0 rfl
      have z1 := h9.cell 1 rfl
      exact bodyPost_ret (v := .tuple #[.agg #[.int .i64 a, .int .i64 b], .bool true]) (by simp [results, Tryz.results174, go_sem, z0, z1]) rfl ⟨by rw [HV.out], S9⟩

set_option maxRecDepth 10000 in
set_option maxHeartbeats 2000000 in
theorem sFracNew_any (n d : Int) (w : World) :
    Calls Tryz.prog 134 #[.int .i64 n, .int .i64 d] w fun e w' => e = .returned (.tuple #[.agg #[.int .i64 (fracNew n d).1, .int .i64 (fracNew n d).2.1], .bool (fracNew n d).2.2]) ∧ Same w w' := by
  have HR := Lib.hid (show fracNew n d = if d = 0 || !inB n (-1000000000000) 1000000000000 || !inB d (-1000000000000) 1000000000000 then (0, 0, false) else lowest n d from rfl)
  by_cases h0 : d = 0
  · have HV := Lib.hid (show fracNew n d = (0, 0, false) by rw [HR.out]; simp [h0])
    have b0 : (d == 0) = true := by simp [h0]
    clear h0
    go_enter Tryz.func134, Tryz.ntmps134
    go_wp2
    have h1 : BoxAt (w.alloc (.cells #[.int .i64 0, .int .i64 0] 101)) (w.heap.size) 101 [.int .i64 0, .int .i64 0] := by simpa using (BoxAt.new w 101 [.int .i64 0, .int .i64 0])
    have hs0 := (Same.alloc (Same.refl w) (.cells #[.int .i64 0, .int .i64 0] 101))
    generalize (w.alloc (.cells #[.int .i64 0, .int .i64 0] 101)) = w0 at *
    have z0 := h1.cell 0 rfl
    have z1 := h1.cell 1 rfl
    exact bodyPost_ret (v := .tuple #[.agg #[.int .i64 0, .int .i64 0], .bool false]) (by simp [results, Tryz.results134, go_sem, z0, z1]) rfl ⟨by rw [HV.out], hs0⟩
  have b0 : (d == 0) = false := by simp [h0]
  cases m1 : inB n (-1000000000000) 1000000000000
  · have HV := Lib.hid (show fracNew n d = (0, 0, false) by rw [HR.out]; simp [m1])
    have M1 := Lib.hid m1
    clear m1
    go_enter Tryz.func134, Tryz.ntmps134
    go_wp2_with (go_at_call 115; refine (l01In_any _ _ _ _).mono ?_; rw [M1.out]; rintro e w1 ⟨rfl, rfl⟩)
    have h1 : BoxAt (w.alloc (.cells #[.int .i64 0, .int .i64 0] 101)) (w.heap.size) 101 [.int .i64 0, .int .i64 0] := by simpa using (BoxAt.new w 101 [.int .i64 0, .int .i64 0])
    have hs0 := (Same.alloc (Same.refl w) (.cells #[.int .i64 0, .int .i64 0] 101))
    generalize (w.alloc (.cells #[.int .i64 0, .int .i64 0] 101)) = w0 at *
    have z0 := h1.cell 0 rfl
    have z1 := h1.cell 1 rfl
    exact bodyPost_ret (v := .tuple #[.agg #[.int .i64 0, .int .i64 0], .bool false]) (by simp [results, Tryz.results134, go_sem, z0, z1]) rfl ⟨by rw [HV.out], hs0⟩
  cases m2 : inB d (-1000000000000) 1000000000000
  · have HV := Lib.hid (show fracNew n d = (0, 0, false) by rw [HR.out]; simp [m2])
    have M1 := Lib.hid m1
    have M2 := Lib.hid m2
    clear m1 m2
    go_enter Tryz.func134, Tryz.ntmps134
    go_wp2_with (go_at_call 115; refine (l01In_any _ _ _ _).mono ?_; (first | rw [M1.out] | rw [M2.out]); rintro e w1 ⟨rfl, rfl⟩)
    have h1 : BoxAt (w.alloc (.cells #[.int .i64 0, .int .i64 0] 101)) (w.heap.size) 101 [.int .i64 0, .int .i64 0] := by simpa using (BoxAt.new w 101 [.int .i64 0, .int .i64 0])
    have hs0 := (Same.alloc (Same.refl w) (.cells #[.int .i64 0, .int .i64 0] 101))
    generalize (w.alloc (.cells #[.int .i64 0, .int .i64 0] 101)) = w0 at *
    have z0 := h1.cell 0 rfl
    have z1 := h1.cell 1 rfl
    exact bodyPost_ret (v := .tuple #[.agg #[.int .i64 0, .int .i64 0], .bool false]) (by simp [results, Tryz.results134, go_sem, z0, z1]) rfl ⟨by rw [HV.out], hs0⟩
  have h1 := inB_iff.1 m1
  have h2 := inB_iff.1 m2
  have HV := Lib.hid (show fracNew n d = lowest n d by rw [HR.out, m1, m2]; simp [h0])
  have M1 := Lib.hid m1
  have M2 := Lib.hid m2
  clear m1 m2
  go_enter Tryz.func134, Tryz.ntmps134
  go_wp2_with (go_at_call 115; refine (l01In_any _ _ _ _).mono ?_; (first | rw [M1.out] | rw [M2.out]); rintro e w1 ⟨rfl, rfl⟩)
  have hb1 : BoxAt (w.alloc (.cells #[.int .i64 0, .int .i64 0] 101)) (w.heap.size) 101 [.int .i64 0, .int .i64 0] := by simpa using (BoxAt.new w 101 [.int .i64 0, .int .i64 0])
  have hs0 := (Same.alloc (Same.refl w) (.cells #[.int .i64 0, .int .i64 0] 101))
  generalize (w.alloc (.cells #[.int .i64 0, .int .i64 0] 101)) = w0 at *
  refine (l02Make_any n d _ (by omega) (by omega) h0).mono ?_
  rintro e w1 ⟨rfl, hs1⟩
  replace hb1 := hb1.same hs1
  have S1 := hs0.trans hs1
  rw [← HV.out]
  have x0 := hb1.cell 0 rfl
  have x1 := hb1.cell 1 rfl
  have xf0 := hb1.frozen 0
  have xf1 := hb1.frozen 1
  have xL := hb1.lt
  go_wp2
  have h9 := (hb1.set 0 (.int .i64 (fracNew n d).1)).set 1 (.int .i64 (fracNew n d).2.1)
  have S9 := (S1.setCell (p := ⟨w.heap.size, 0, none⟩) (Nat.le_refl _) (.int .i64 (fracNew n d).1)).setCell (p := ⟨w.heap.size, 1, none⟩) (Nat.le_refl _) (.int .i64 (fracNew n d).2.1)
  generalize (w1.setCell ⟨w.heap.size, 0, none⟩ (.int .i64 (fracNew n d).1)).setCell ⟨w.heap.size, 1, none⟩ (.int .i64 (fracNew n d).2.1) = w9 at *
  have z0 := h9.cell 0 rfl
  have z1 := h9.cell 1 rfl
  exact bodyPost_ret (v := .tuple #[.agg #[.int .i64 (fracNew n d).1, .int .i64 (fracNew n d).2.1], .bool (fracNew n d).2.2]) (by simp [results, Tryz.results134, go_sem, z0, z1]) rfl ⟨rfl, S9⟩

set_option maxHeartbeats 1000000 in
theorem l02Sum_no (n d m e : Int) (s : Int) (w : World) (h : (fracOk n d && fracOk m e) = false) :
    Calls Tryz.prog 212 #[.agg #[.int .i64 n, .int .i64 d], .agg #[.int .i64 m, .int .i64 e], .int .i64 s] w fun e' w' => e' = .returned (.tuple #[.agg #[.int .i64 0, .int .i64 0], .bool false]) ∧ Same w w' := by
  cases m1 : fracOk n d
  · clear h
    go_enter Tryz.func212, Tryz.ntmps212
    go_wp2_with fail
    have h3 : BoxAt (((w.alloc (.cells #[.int .i64 n, .int .i64 d] 101)).alloc (.cells #[.int .i64 m, .int .i64 e] 101)).alloc (.cells #[.int .i64 0, .int .i64 0] 101)) (w.heap.size + 1 + 1) 101 [.int .i64 0, .int .i64 0] := by simpa using (BoxAt.new ((w.alloc (.cells #[.int .i64 n, .int .i64 d] 101)).alloc (.cells #[.int .i64 m, .int .i64 e] 101)) 101 [.int .i64 0, .int .i64 0])
    have hs0 := (Same.alloc (Same.alloc (Same.alloc (Same.refl w) (.cells #[.int .i64 n, .int .i64 d] 101)) (.cells #[.int .i64 m, .int .i64 e] 101)) (.cells #[.int .i64 0, .int .i64 0] 101))
    generalize (((w.alloc (.cells #[.int .i64 n, .int .i64 d] 101)).alloc (.cells #[.int .i64 m, .int .i64 e] 101)).alloc (.cells #[.int .i64 0, .int .i64 0] 101)) = w0 at *
    refine (sFracOk_any n d _).mono ?_
    rw [m1]
    rintro e' w1 ⟨rfl, hs1⟩
    have S1 := hs0.trans hs1
    replace h3 := h3.same hs1
    have x0 := h3.cell 0 rfl
    have x1 := h3.cell 1 rfl
    have xf0 := h3.frozen 0
    have xf1 := h3.frozen 1
    have xL := h3.lt
    go_wp2
    have h9 := (h3.set 0 (.int .i64 0)).set 1 (.int .i64 0)
    have S9 := (S1.setCell (p := ⟨(w.heap.size + 1 + 1), 0, none⟩) (show w.heap.size ≤ w.heap.size + 1 + 1 by omega) (.int .i64 0)).setCell (p := ⟨(w.heap.size + 1 + 1), 1, none⟩) (show w.heap.size ≤ w.heap.size + 1 + 1 by omega) (.int .i64 0)
    generalize (w1.setCell ⟨(w.heap.size + 1 + 1), 0, none⟩ (.int .i64 0)).setCell ⟨(w.heap.size + 1 + 1), 1, none⟩ (.int .i64 0) = w9 at *
    have z0 := h9.cell 0 rfl
    have z1 := h9.cell 1 rfl
    exact bodyPost_ret (v := .tuple #[.agg #[.int .i64 0, .int .i64 0], .bool false]) (by simp [results, Tryz.results212, go_sem, z0, z1]) rfl ⟨rfl, S9⟩
  · have m2 : fracOk m e = false := by rw [m1] at h; exact h
    clear h
    go_enter Tryz.func212, Tryz.ntmps212
    go_wp2_with fail
    have h2 : BoxAt (((w.alloc (.cells #[.int .i64 n, .int .i64 d] 101)).alloc (.cells #[.int .i64 m, .int .i64 e] 101)).alloc (.cells #[.int .i64 0, .int .i64 0] 101)) (w.heap.size + 1) 101 [.int .i64 m, .int .i64 e] := by simpa using (BoxAt.alloc (BoxAt.new (w.alloc (.cells #[.int .i64 n, .int .i64 d] 101)) 101 [.int .i64 m, .int .i64 e]) (.cells #[.int .i64 0, .int .i64 0] 101))
    have h3 : BoxAt (((w.alloc (.cells #[.int .i64 n, .int .i64 d] 101)).alloc (.cells #[.int .i64 m, .int .i64 e] 101)).alloc (.cells #[.int .i64 0, .int .i64 0] 101)) (w.heap.size + 1 + 1) 101 [.int .i64 0, .int .i64 0] := by simpa using (BoxAt.new ((w.alloc (.cells #[.int .i64 n, .int .i64 d] 101)).alloc (.cells #[.int .i64 m, .int .i64 e] 101)) 101 [.int .i64 0, .int .i64 0])
    have hs0 := (Same.alloc (Same.alloc (Same.alloc (Same.refl w) (.cells #[.int .i64 n, .int .i64 d] 101)) (.cells #[.int .i64 m, .int .i64 e] 101)) (.cells #[.int .i64 0, .int .i64 0] 101))
    generalize (((w.alloc (.cells #[.int .i64 n, .int .i64 d] 101)).alloc (.cells #[.int .i64 m, .int .i64 e] 101)).alloc (.cells #[.int .i64 0, .int .i64 0] 101)) = w0 at *
    refine (sFracOk_any n d _).mono ?_
    rw [m1]
    rintro e' w1 ⟨rfl, hs1⟩
    have hs2 := hs1
    clear hs1
    have S2 := hs0.trans hs2
    replace h2 := h2.same hs2
    replace h3 := h3.same hs2
    have y0 := h2.cell 0 rfl
    have y1 := h2.cell 1 rfl
    have yL := h2.lt
    go_wp2_with fail
    refine (sFracOk_any m e _).mono ?_
    rw [m2]
    rintro e' w1 ⟨rfl, hs1⟩
    clear y0 y1 yL
    have S1 := S2.trans hs1
    replace h3 := h3.same hs1
    have x0 := h3.cell 0 rfl
    have x1 := h3.cell 1 rfl
    have xf0 := h3.frozen 0
    have xf1 := h3.frozen 1
    have xL := h3.lt
    go_wp2
    have h9 := (h3.set 0 (.int .i64 0)).set 1 (.int .i64 0)
    have S9 := (S1.setCell (p := ⟨(w.heap.size + 1 + 1), 0, none⟩) (show w.heap.size ≤ w.heap.size + 1 + 1 by omega) (.int .i64 0)).setCell (p := ⟨(w.heap.size + 1 + 1), 1, none⟩) (show w.heap.size ≤ w.heap.size + 1 + 1 by omega) (.int .i64 0)
    generalize (w1.setCell ⟨(w.heap.size + 1 + 1), 0, none⟩ (.int .i64 0)).setCell ⟨(w.heap.size + 1 + 1), 1, none⟩ (.int .i64 0) = w9 at *
    have z0 := h9.cell 0 rfl
    have z1 := h9.cell 1 rfl
    exact bodyPost_ret (v := .tuple #[.agg #[.int .i64 0, .int .i64 0], .bool false]) (by simp [results, Tryz.results212, go_sem, z0, z1]) rfl ⟨rfl, S9⟩

set_option maxRecDepth 10000 in
set_option maxHeartbeats 4000000 in
theorem l02Sum_yes (n d m e s : Int) (w : World) (m1 : fracOk n d = true) (m2 : fracOk m e = true) (hs : s = 1 ∨ s = -1) :
    Calls Tryz.prog 212 #[.agg #[.int .i64 n, .int .i64 d], .agg #[.int .i64 m, .int .i64 e], .int .i64 s] w fun e' w' => e' = .returned (.tuple #[.agg #[.int .i64 (fracSum (n, d) (m, e) s).1, .int .i64 (fracSum (n, d) (m, e) s).2.1], .bool (fracSum (n, d) (m, e) s).2.2]) ∧ Same w w' := by
  have i1 := fracOk_iff.1 m1
  have i2 := fracOk_iff.1 m2
  have hsum := lowest_sum (a := (n, d)) (b := (m, e)) m1 m2 s
  have HR0 := Lib.hid (show fracSum (n, d) (m, e) s = lowest (n * e + s * m * d) (d * e) by simp [fracSum, m1, m2])
  have M1 := Lib.hid m1
  have M2 := Lib.hid m2
  clear m1 m2
  dsimp only at hsum
  obtain ⟨g, hg⟩ : ∃ g : Nat, g = Int.gcd d e := ⟨_, rfl⟩
  rw [← hg] at hsum
  have hg0 : 0 < g := by rw [hg]; exact Int.gcd_pos_of_ne_zero_right _ (by omega)
  have q1 := l02Gcd_any d e
  rw [← hg] at q1
  have hgd : (g : Int) * (d / g) = d := Int.mul_ediv_cancel' (by rw [hg]; exact Int.gcd_dvd_left ..)
  clear hg
  have hx0 : 0 ≤ e / (g : Int) := Int.ediv_nonneg (by omega) (by omega)
  have hx1 : e / (g : Int) ≤ e := Int.ediv_le_self _ (by omega)
  have hy0 : 0 ≤ d / (g : Int) := Int.ediv_nonneg (by omega) (by omega)
  have hy1 : d / (g : Int) ≤ d := Int.ediv_le_self _ (by omega)
  obtain ⟨x, hx⟩ : ∃ x, e / (g : Int) = x := ⟨_, rfl⟩
  obtain ⟨y, hy⟩ : ∃ y, d / (g : Int) = y := ⟨_, rfl⟩
  have hx' : e.tdiv (g : Int) = x := by rw [Int.tdiv_eq_ediv_of_nonneg (by omega)]; exact hx
  have hy' : d.tdiv (g : Int) = y := by rw [Int.tdiv_eq_ediv_of_nonneg (by omega)]; exact hy
  rw [hx] at hx0 hx1 hsum
  rw [hy] at hy0 hy1 hsum
  have hu := natAbs_mul_le (x := n) (y := x) (X := 1000000000000) (Y := 1000000) (by omega) (by omega)
  have hv := natAbs_mul_le (x := s) (y := m) (X := 1) (Y := 1000000000000) (by omega) (by omega)
  have hz := natAbs_mul_le (x := s * m) (y := y) (X := 1000000000000) (Y := 1000000) (by omega) (by omega)
  have hq := natAbs_mul_le (x := y) (y := e) (X := 1000000) (Y := 1000000) (by omega) (by omega)
  obtain ⟨u, eu⟩ : ∃ u, n * x = u := ⟨_, rfl⟩
  obtain ⟨v, ev⟩ : ∃ v, s * m = v := ⟨_, rfl⟩
  have hq0 : y * e ≠ 0 := by
    intro h0
    rcases Int.mul_eq_zero.1 h0 with h | h
    · rw [hy, h] at hgd
      omega
    · omega
  clear hgd
  rw [ev] at hv hz hsum
  obtain ⟨z, ez⟩ : ∃ z, v * y = z := ⟨_, rfl⟩
  obtain ⟨q, eq⟩ : ∃ q, y * e = q := ⟨_, rfl⟩
  rw [eu] at hu hsum
  rw [ez] at hz hsum
  rw [eq] at hq hq0 hsum
  have HR := Lib.hid (show fracSum (n, d) (m, e) s = lowest (u + z) q by rw [HR0.out, hsum, ev])
  clear hsum HR0
  have g0 : ((g : Int) == 0) = false := by simp; omega
  go_enter Tryz.func212, Tryz.ntmps212
  go_wp2_with fail
  have h1 : BoxAt (((w.alloc (.cells #[.int .i64 n, .int .i64 d] 101)).alloc (.cells #[.int .i64 m, .int .i64 e] 101)).alloc (.cells #[.int .i64 0, .int .i64 0] 101)) (w.heap.size) 101 [.int .i64 n, .int .i64 d] := by simpa using (BoxAt.alloc (BoxAt.alloc (BoxAt.new w 101 [.int .i64 n, .int .i64 d]) (.cells #[.int .i64 m, .int .i64 e] 101)) (.cells #[.int .i64 0, .int .i64 0] 101))
  have h2 : BoxAt (((w.alloc (.cells #[.int .i64 n, .int .i64 d] 101)).alloc (.cells #[.int .i64 m, .int .i64 e] 101)).alloc (.cells #[.int .i64 0, .int .i64 0] 101)) (w.heap.size + 1) 101 [.int .i64 m, .int .i64 e] := by simpa using (BoxAt.alloc (BoxAt.new (w.alloc (.cells #[.int .i64 n, .int .i64 d] 101)) 101 [.int .i64 m, .int .i64 e]) (.cells #[.int .i64 0, .int .i64 0] 101))
  have h3 : BoxAt (((w.alloc (.cells #[.int .i64 n, .int .i64 d] 101)).alloc (.cells #[.int .i64 m, .int .i64 e] 101)).alloc (.cells #[.int .i64 0, .int .i64 0] 101)) (w.heap.size + 1 + 1) 101 [.int .i64 0, .int .i64 0] := by simpa using (BoxAt.new ((w.alloc (.cells #[.int .i64 n, .int .i64 d] 101)).alloc (.cells #[.int .i64 m, .int .i64 e] 101)) 101 [.int .i64 0, .int .i64 0])
  have hs0 := (Same.alloc (Same.alloc (Same.alloc (Same.refl w) (.cells #[.int .i64 n, .int .i64 d] 101)) (.cells #[.int .i64 m, .int .i64 e] 101)) (.cells #[.int .i64 0, .int .i64 0] 101))
  generalize (((w.alloc (.cells #[.int .i64 n, .int .i64 d] 101)).alloc (.cells #[.int .i64 m, .int .i64 e] 101)).alloc (.cells #[.int .i64 0, .int .i64 0] 101)) = w0 at *
  refine (sFracOk_any n d _).mono ?_
  rw [M1.out]
  rintro e' w2 ⟨rfl, hs2⟩
  have y0 := (h2.same hs2).cell 0 rfl
  have y1 := (h2.same hs2).cell 1 rfl
  have yL := (h2.same hs2).lt
  go_wp2_with fail
  clear y0 y1 yL
  refine (sFracOk_any m e _).mono ?_
  rw [M2.out]
  rintro e' w3 ⟨rfl, hs3⟩
  have S3 := (hs0.trans hs2).trans hs3
  have T3 := hs2.trans hs3
  replace h1 := h1.same T3
  replace h2 := h2.same T3
  replace h3 := h3.same T3
  clear T3 hs3 hs2 hs0
  have y0 := h1.cell 0 rfl
  have y1 := h1.cell 1 rfl
  have yL := h1.lt
  have u0 := h2.cell 0 rfl
  have u1 := h2.cell 1 rfl
  have uL := h2.lt
  have x0 := h3.cell 0 rfl
  have x1 := h3.cell 1 rfl
  have xf0 := h3.frozen 0
  have xf1 := h3.frozen 1
  have xL := h3.lt
  go_wp2_with fail
  refine (q1 _ (by omega) (by omega)).mono ?_
  rintro e' w4 ⟨rfl, rfl⟩
  have HM := Lib.hid (fun w => l02Make_any (u + z) q w (by omega) (by omega) hq0)
  clear q1
  have kx : IntKind.i64.wrap x = x := IntWalk.i64_in _ (by omega)
  have ky : IntKind.i64.wrap y = y := IntWalk.i64_in _ (by omega)
  have ku : IntKind.i64.wrap u = u := IntWalk.i64_in _ (by omega)
  have kv : IntKind.i64.wrap v = v := IntWalk.i64_in _ (by omega)
  have kz : IntKind.i64.wrap z = z := IntWalk.i64_in _ (by omega)
  have kq : IntKind.i64.wrap q = q := IntWalk.i64_in _ (by omega)
  have kuz : IntKind.i64.wrap (u + z) = u + z := IntWalk.i64_in _ (by omega)
  have g1 : ¬ (g : Int) = 0 := by omega
  have g2 : ¬ g = 0 := by omega
  clear hx hy hx0 hx1 hy0 hy1 hu hv hz hq hq0
  go_wp2_with fail
  go_region_held3 (fun x => x.cell? ⟨w.heap.size, 0, none⟩ = some (.int .i64 n) ∧ x.cell? ⟨w.heap.size, 1, none⟩ = some (.int .i64 d) ∧ x.cell? ⟨w.heap.size + 1, 0, none⟩ = some (.int .i64 m) ∧ x.cell? ⟨w.heap.size + 1, 1, none⟩ = some (.int .i64 e))
    (first | exact ⟨y0, y1, u0, u1⟩ | (with_reducible exact ⟨v0, v1, v2, v3⟩) | (with_reducible exact ⟨r0, r1, r2, r3⟩))
    (first | (go_at_call 174; refine (HM.out _).mono ?_; rintro e' w5 ⟨rfl, hs5⟩; (have T5 := (Same.refl _).drew.trans hs5); (have h15 := h1.same T5); (have h25 := h2.same T5); (have h35 := h3.same T5); (have v0 := h15.cell 0 rfl); (have v1 := h15.cell 1 rfl); (have v2 := h25.cell 0 rfl); (have v3 := h25.cell 1 rfl); (have x50 := h35.cell 0 rfl); (have x51 := h35.cell 1 rfl); (have xf50 := h35.frozen 0); (have xf51 := h35.frozen 1); (have p1 := (h15.other (k := w.heap.size + 1 + 1) (j := 0) (.int .i64 (lowest (u + z) q).1) (by omega)).other (k := w.heap.size + 1 + 1) (j := 1) (.int .i64 (lowest (u + z) q).2.1) (by omega)); (have p2 := (h25.other (k := w.heap.size + 1 + 1) (j := 0) (.int .i64 (lowest (u + z) q).1) (by omega)).other (k := w.heap.size + 1 + 1) (j := 1) (.int .i64 (lowest (u + z) q).2.1) (by omega)); (have r0 := p1.cell 0 rfl); (have r1 := p1.cell 1 rfl); (have r2 := p2.cell 0 rfl); (have r3 := p2.cell 1 rfl)))
  clear p1 p2 r0 r1 r2 r3 v0 v1 v2 v3 x50 x51 xf50 xf51 h15 h25
  have S5 := S3.trans T5
  go_wp2
  have h9 := (h35.set 0 (.int .i64 (lowest (u + z) q).1)).set 1 (.int .i64 (lowest (u + z) q).2.1)
  have S9 := (S5.setCell (p := ⟨(w.heap.size + 1 + 1), 0, none⟩) (show w.heap.size ≤ w.heap.size + 1 + 1 by omega) (.int .i64 (lowest (u + z) q).1)).setCell (p := ⟨(w.heap.size + 1 + 1), 1, none⟩) (show w.heap.size ≤ w.heap.size + 1 + 1 by omega) (.int .i64 (lowest (u + z) q).2.1)
  generalize (w5.setCell ⟨(w.heap.size + 1 + 1), 0, none⟩ (.int .i64 (lowest (u + z) q).1)).setCell ⟨(w.heap.size + 1 + 1), 1, none⟩ (.int .i64 (lowest (u + z) q).2.1) = w9 at *
  have z0 := h9.cell 0 rfl
  have z1 := h9.cell 1 rfl
  exact bodyPost_ret (v := .tuple #[.agg #[.int .i64 (lowest (u + z) q).1, .int .i64 (lowest (u + z) q).2.1], .bool (lowest (u + z) q).2.2]) (by simp [results, Tryz.results212, go_sem, z0, z1]) rfl ⟨by rw [HR.out], S9⟩

theorem l02Sum_any (n d m e s : Int) (w : World) (hs : s = 1 ∨ s = -1) :
    Calls Tryz.prog 212 #[.agg #[.int .i64 n, .int .i64 d], .agg #[.int .i64 m, .int .i64 e], .int .i64 s] w fun e' w' => e' = .returned (.tuple #[.agg #[.int .i64 (fracSum (n, d) (m, e) s).1, .int .i64 (fracSum (n, d) (m, e) s).2.1], .bool (fracSum (n, d) (m, e) s).2.2]) ∧ Same w w' := by
  cases h : fracOk n d && fracOk m e
  · refine (l02Sum_no n d m e s w h).mono ?_
    rintro e' w' ⟨rfl, hw⟩
    have hz : fracSum (n, d) (m, e) s = (0, 0, false) := by unfold fracSum; rw [h]; rfl
    rw [hz]
    exact ⟨rfl, hw⟩
  · rw [Bool.and_eq_true] at h
    exact l02Sum_yes n d m e s w h.1 h.2 hs

set_option maxHeartbeats 1000000 in
theorem sFracAdd_any (n d m e : Int) (w : World) :
    Calls Tryz.prog 196 #[.agg #[.int .i64 n, .int .i64 d], .agg #[.int .i64 m, .int .i64 e]] w fun e' w' => e' = .returned (.tuple #[.agg #[.int .i64 (fracAdd (n, d) (m, e)).1, .int .i64 (fracAdd (n, d) (m, e)).2.1], .bool (fracAdd (n, d) (m, e)).2.2]) ∧ Same w w' := by
  go_enter Tryz.func196, Tryz.ntmps196
  go_wp2_with fail
  have h3 : BoxAt (((w.alloc (.cells #[.int .i64 n, .int .i64 d] 101)).alloc (.cells #[.int .i64 m, .int .i64 e] 101)).alloc (.cells #[.int .i64 0, .int .i64 0] 101)) (w.heap.size + 1 + 1) 101 [.int .i64 0, .int .i64 0] := by simpa using (BoxAt.new ((w.alloc (.cells #[.int .i64 n, .int .i64 d] 101)).alloc (.cells #[.int .i64 m, .int .i64 e] 101)) 101 [.int .i64 0, .int .i64 0])
  have hs0 := (Same.alloc (Same.alloc (Same.alloc (Same.refl w) (.cells #[.int .i64 n, .int .i64 d] 101)) (.cells #[.int .i64 m, .int .i64 e] 101)) (.cells #[.int .i64 0, .int .i64 0] 101))
  generalize (((w.alloc (.cells #[.int .i64 n, .int .i64 d] 101)).alloc (.cells #[.int .i64 m, .int .i64 e] 101)).alloc (.cells #[.int .i64 0, .int .i64 0] 101)) = w0 at *
  refine (l02Sum_any n d m e 1 _ (by omega)).mono ?_
  rintro e' w1 ⟨rfl, hs1⟩
  rw [← fracAdd_sum]
  replace h3 := h3.same hs1
  have S1 := hs0.trans hs1
  have x0 := h3.cell 0 rfl
  have x1 := h3.cell 1 rfl
  have xf0 := h3.frozen 0
  have xf1 := h3.frozen 1
  have xL := h3.lt
  go_wp2
  have h9 := (h3.set 0 (.int .i64 (fracAdd (n, d) (m, e)).1)).set 1 (.int .i64 (fracAdd (n, d) (m, e)).2.1)
  have S9 := (S1.setCell (p := ⟨(w.heap.size + 1 + 1), 0, none⟩) (show w.heap.size ≤ w.heap.size + 1 + 1 by omega) (.int .i64 (fracAdd (n, d) (m, e)).1)).setCell (p := ⟨(w.heap.size + 1 + 1), 1, none⟩) (show w.heap.size ≤ w.heap.size + 1 + 1 by omega) (.int .i64 (fracAdd (n, d) (m, e)).2.1)
  generalize (w1.setCell ⟨(w.heap.size + 1 + 1), 0, none⟩ (.int .i64 (fracAdd (n, d) (m, e)).1)).setCell ⟨(w.heap.size + 1 + 1), 1, none⟩ (.int .i64 (fracAdd (n, d) (m, e)).2.1) = w9 at *
  have z0 := h9.cell 0 rfl
  have z1 := h9.cell 1 rfl
  exact bodyPost_ret (v := .tuple #[.agg #[.int .i64 (fracAdd (n, d) (m, e)).1, .int .i64 (fracAdd (n, d) (m, e)).2.1], .bool (fracAdd (n, d) (m, e)).2.2]) (by simp [results, Tryz.results196, go_sem, z0, z1]) rfl ⟨rfl, S9⟩

set_option maxHeartbeats 1000000 in
theorem sFracSub_any (n d m e : Int) (w : World) :
    Calls Tryz.prog 197 #[.agg #[.int .i64 n, .int .i64 d], .agg #[.int .i64 m, .int .i64 e]] w fun e' w' => e' = .returned (.tuple #[.agg #[.int .i64 (fracSub (n, d) (m, e)).1, .int .i64 (fracSub (n, d) (m, e)).2.1], .bool (fracSub (n, d) (m, e)).2.2]) ∧ Same w w' := by
  go_enter Tryz.func197, Tryz.ntmps197
  go_wp2_with fail
  have h3 : BoxAt (((w.alloc (.cells #[.int .i64 n, .int .i64 d] 101)).alloc (.cells #[.int .i64 m, .int .i64 e] 101)).alloc (.cells #[.int .i64 0, .int .i64 0] 101)) (w.heap.size + 1 + 1) 101 [.int .i64 0, .int .i64 0] := by simpa using (BoxAt.new ((w.alloc (.cells #[.int .i64 n, .int .i64 d] 101)).alloc (.cells #[.int .i64 m, .int .i64 e] 101)) 101 [.int .i64 0, .int .i64 0])
  have hs0 := (Same.alloc (Same.alloc (Same.alloc (Same.refl w) (.cells #[.int .i64 n, .int .i64 d] 101)) (.cells #[.int .i64 m, .int .i64 e] 101)) (.cells #[.int .i64 0, .int .i64 0] 101))
  generalize (((w.alloc (.cells #[.int .i64 n, .int .i64 d] 101)).alloc (.cells #[.int .i64 m, .int .i64 e] 101)).alloc (.cells #[.int .i64 0, .int .i64 0] 101)) = w0 at *
  refine (l02Sum_any n d m e (-1) _ (by omega)).mono ?_
  rintro e' w1 ⟨rfl, hs1⟩
  rw [← fracSub_sum]
  replace h3 := h3.same hs1
  have S1 := hs0.trans hs1
  have x0 := h3.cell 0 rfl
  have x1 := h3.cell 1 rfl
  have xf0 := h3.frozen 0
  have xf1 := h3.frozen 1
  have xL := h3.lt
  go_wp2
  have h9 := (h3.set 0 (.int .i64 (fracSub (n, d) (m, e)).1)).set 1 (.int .i64 (fracSub (n, d) (m, e)).2.1)
  have S9 := (S1.setCell (p := ⟨(w.heap.size + 1 + 1), 0, none⟩) (show w.heap.size ≤ w.heap.size + 1 + 1 by omega) (.int .i64 (fracSub (n, d) (m, e)).1)).setCell (p := ⟨(w.heap.size + 1 + 1), 1, none⟩) (show w.heap.size ≤ w.heap.size + 1 + 1 by omega) (.int .i64 (fracSub (n, d) (m, e)).2.1)
  generalize (w1.setCell ⟨(w.heap.size + 1 + 1), 0, none⟩ (.int .i64 (fracSub (n, d) (m, e)).1)).setCell ⟨(w.heap.size + 1 + 1), 1, none⟩ (.int .i64 (fracSub (n, d) (m, e)).2.1) = w9 at *
  have z0 := h9.cell 0 rfl
  have z1 := h9.cell 1 rfl
  exact bodyPost_ret (v := .tuple #[.agg #[.int .i64 (fracSub (n, d) (m, e)).1, .int .i64 (fracSub (n, d) (m, e)).2.1], .bool (fracSub (n, d) (m, e)).2.2]) (by simp [results, Tryz.results197, go_sem, z0, z1]) rfl ⟨rfl, S9⟩

theorem l02Small_any (n d : Int) (w : World) : Calls Tryz.prog 213 #[.agg #[.int .i64 n, .int .i64 d]] w fun e w' => e = .returned (.bool (factorB (n, d))) ∧ Same w w' := by
  cases m1 : fracOk n d
  · go_enter Tryz.func213, Tryz.ntmps213
    go_wp2_with fail
    refine (sFracOk_any n d _).mono ?_
    rw [m1]
    rintro e w1 ⟨rfl, hs1⟩
    go_wp2
    go_ret
    exact ⟨ret_bool (by simp [factorB, m1]), ((Same.refl w).alloc _).trans hs1⟩
  · go_enter Tryz.func213, Tryz.ntmps213
    go_wp2_with fail
    have h1 : BoxAt (w.alloc (.cells #[.int .i64 n, .int .i64 d] 101)) (w.heap.size) 101 [.int .i64 n, .int .i64 d] := by simpa using (BoxAt.new w 101 [.int .i64 n, .int .i64 d])
    have hs0 := (Same.alloc (Same.refl w) (.cells #[.int .i64 n, .int .i64 d] 101))
    generalize (w.alloc (.cells #[.int .i64 n, .int .i64 d] 101)) = w0 at *
    refine (sFracOk_any n d _).mono ?_
    rw [m1]
    rintro e w1 ⟨rfl, hs1⟩
    have y0 := (h1.same hs1).cell 0 rfl
    have y1 := (h1.same hs1).cell 1 rfl
    have yL := (h1.same hs1).lt
    go_wp2_with (go_at_call 115; refine (l01In_any _ _ _ _).mono ?_; rintro e w' ⟨rfl, rfl⟩)
    go_ret
    exact ⟨ret_bool (by simp [factorB, m1]), hs0.trans hs1⟩

set_option maxHeartbeats 1000000 in
theorem sFracMul_no (n d m e : Int) (w : World) (h : (factorB (n, d) && factorB (m, e)) = false) :
    Calls Tryz.prog 198 #[.agg #[.int .i64 n, .int .i64 d], .agg #[.int .i64 m, .int .i64 e]] w fun e' w' => e' = .returned (.tuple #[.agg #[.int .i64 0, .int .i64 0], .bool false]) ∧ Same w w' := by
  cases m1 : factorB (n, d)
  · clear h
    go_enter Tryz.func198, Tryz.ntmps198
    go_wp2_with fail
    have h3 : BoxAt (((w.alloc (.cells #[.int .i64 n, .int .i64 d] 101)).alloc (.cells #[.int .i64 m, .int .i64 e] 101)).alloc (.cells #[.int .i64 0, .int .i64 0] 101)) (w.heap.size + 1 + 1) 101 [.int .i64 0, .int .i64 0] := by simpa using (BoxAt.new ((w.alloc (.cells #[.int .i64 n, .int .i64 d] 101)).alloc (.cells #[.int .i64 m, .int .i64 e] 101)) 101 [.int .i64 0, .int .i64 0])
    have hs0 := (Same.alloc (Same.alloc (Same.alloc (Same.refl w) (.cells #[.int .i64 n, .int .i64 d] 101)) (.cells #[.int .i64 m, .int .i64 e] 101)) (.cells #[.int .i64 0, .int .i64 0] 101))
    generalize (((w.alloc (.cells #[.int .i64 n, .int .i64 d] 101)).alloc (.cells #[.int .i64 m, .int .i64 e] 101)).alloc (.cells #[.int .i64 0, .int .i64 0] 101)) = w0 at *
    refine (l02Small_any n d _).mono ?_
    rw [m1]
    rintro e' w1 ⟨rfl, hs1⟩
    have S1 := hs0.trans hs1
    replace h3 := h3.same hs1
    have x0 := h3.cell 0 rfl
    have x1 := h3.cell 1 rfl
    have xf0 := h3.frozen 0
    have xf1 := h3.frozen 1
    have xL := h3.lt
    go_wp2
    have h9 := (h3.set 0 (.int .i64 0)).set 1 (.int .i64 0)
    have S9 := (S1.setCell (p := ⟨(w.heap.size + 1 + 1), 0, none⟩) (show w.heap.size ≤ w.heap.size + 1 + 1 by omega) (.int .i64 0)).setCell (p := ⟨(w.heap.size + 1 + 1), 1, none⟩) (show w.heap.size ≤ w.heap.size + 1 + 1 by omega) (.int .i64 0)
    generalize (w1.setCell ⟨(w.heap.size + 1 + 1), 0, none⟩ (.int .i64 0)).setCell ⟨(w.heap.size + 1 + 1), 1, none⟩ (.int .i64 0) = w9 at *
    have z0 := h9.cell 0 rfl
    have z1 := h9.cell 1 rfl
    exact bodyPost_ret (v := .tuple #[.agg #[.int .i64 0, .int .i64 0], .bool false]) (by simp [results, Tryz.results198, go_sem, z0, z1]) rfl ⟨rfl, S9⟩
  · have m2 : factorB (m, e) = false := by rw [m1] at h; exact h
    clear h
    go_enter Tryz.func198, Tryz.ntmps198
    go_wp2_with fail
    have h2 : BoxAt (((w.alloc (.cells #[.int .i64 n, .int .i64 d] 101)).alloc (.cells #[.int .i64 m, .int .i64 e] 101)).alloc (.cells #[.int .i64 0, .int .i64 0] 101)) (w.heap.size + 1) 101 [.int .i64 m, .int .i64 e] := by simpa using (BoxAt.alloc (BoxAt.new (w.alloc (.cells #[.int .i64 n, .int .i64 d] 101)) 101 [.int .i64 m, .int .i64 e]) (.cells #[.int .i64 0, .int .i64 0] 101))
    have h3 : BoxAt (((w.alloc (.cells #[.int .i64 n, .int .i64 d] 101)).alloc (.cells #[.int .i64 m, .int .i64 e] 101)).alloc (.cells #[.int .i64 0, .int .i64 0] 101)) (w.heap.size + 1 + 1) 101 [.int .i64 0, .int .i64 0] := by simpa using (BoxAt.new ((w.alloc (.cells #[.int .i64 n, .int .i64 d] 101)).alloc (.cells #[.int .i64 m, .int .i64 e] 101)) 101 [.int .i64 0, .int .i64 0])
    have hs0 := (Same.alloc (Same.alloc (Same.alloc (Same.refl w) (.cells #[.int .i64 n, .int .i64 d] 101)) (.cells #[.int .i64 m, .int .i64 e] 101)) (.cells #[.int .i64 0, .int .i64 0] 101))
    generalize (((w.alloc (.cells #[.int .i64 n, .int .i64 d] 101)).alloc (.cells #[.int .i64 m, .int .i64 e] 101)).alloc (.cells #[.int .i64 0, .int .i64 0] 101)) = w0 at *
    refine (l02Small_any n d _).mono ?_
    rw [m1]
    rintro e' w1 ⟨rfl, hs1⟩
    have hs2 := hs1
    clear hs1
    have S2 := hs0.trans hs2
    replace h2 := h2.same hs2
    replace h3 := h3.same hs2
    have y0 := h2.cell 0 rfl
    have y1 := h2.cell 1 rfl
    have yL := h2.lt
    go_wp2_with fail
    refine (l02Small_any m e _).mono ?_
    rw [m2]
    rintro e' w1 ⟨rfl, hs1⟩
    clear y0 y1 yL
    have S1 := S2.trans hs1
    replace h3 := h3.same hs1
    have x0 := h3.cell 0 rfl
    have x1 := h3.cell 1 rfl
    have xf0 := h3.frozen 0
    have xf1 := h3.frozen 1
    have xL := h3.lt
    go_wp2
    have h9 := (h3.set 0 (.int .i64 0)).set 1 (.int .i64 0)
    have S9 := (S1.setCell (p := ⟨(w.heap.size + 1 + 1), 0, none⟩) (show w.heap.size ≤ w.heap.size + 1 + 1 by omega) (.int .i64 0)).setCell (p := ⟨(w.heap.size + 1 + 1), 1, none⟩) (show w.heap.size ≤ w.heap.size + 1 + 1 by omega) (.int .i64 0)
    generalize (w1.setCell ⟨(w.heap.size + 1 + 1), 0, none⟩ (.int .i64 0)).setCell ⟨(w.heap.size + 1 + 1), 1, none⟩ (.int .i64 0) = w9 at *
    have z0 := h9.cell 0 rfl
    have z1 := h9.cell 1 rfl
    exact bodyPost_ret (v := .tuple #[.agg #[.int .i64 0, .int .i64 0], .bool false]) (by simp [results, Tryz.results198, go_sem, z0, z1]) rfl ⟨rfl, S9⟩
theorem factorB_iff {n d : Int} : factorB (n, d) = true ↔ fracOk n d = true ∧ -1000000 ≤ n ∧ n ≤ 1000000 := by
  simp only [factorB, Bool.and_eq_true, inB_iff]

set_option maxRecDepth 10000 in
set_option maxHeartbeats 1000000 in
theorem sFracMul_yes (n d m e : Int) (w : World) (m1 : factorB (n, d) = true) (m2 : factorB (m, e) = true) :
    Calls Tryz.prog 198 #[.agg #[.int .i64 n, .int .i64 d], .agg #[.int .i64 m, .int .i64 e]] w fun e' w' => e' = .returned (.tuple #[.agg #[.int .i64 (fracMul (n, d) (m, e)).1, .int .i64 (fracMul (n, d) (m, e)).2.1], .bool (fracMul (n, d) (m, e)).2.2]) ∧ Same w w' := by
  have j1 := factorB_iff.1 m1
  have j2 := factorB_iff.1 m2
  have i1 := fracOk_iff.1 j1.1
  have i2 := fracOk_iff.1 j2.1
  have HR := Lib.hid (show fracMul (n, d) (m, e) = lowest (n * m) (d * e) by simp [fracMul, m1, m2])
  have M1 := Lib.hid m1
  have M2 := Lib.hid m2
  clear m1 m2
  have hu := natAbs_mul_le (x := n) (y := m) (X := 1000000) (Y := 1000000) (by omega) (by omega)
  have hq := natAbs_mul_le (x := d) (y := e) (X := 1000000) (Y := 1000000) (by omega) (by omega)
  have hq0 : 0 < d * e := Int.mul_pos (by omega) (by omega)
  obtain ⟨u, eu⟩ : ∃ u, n * m = u := ⟨_, rfl⟩
  obtain ⟨q, eq⟩ : ∃ q, d * e = q := ⟨_, rfl⟩
  rw [eu] at hu HR
  rw [eq] at hq hq0 HR
  go_enter Tryz.func198, Tryz.ntmps198
  go_wp2_with fail
  have h1 : BoxAt (((w.alloc (.cells #[.int .i64 n, .int .i64 d] 101)).alloc (.cells #[.int .i64 m, .int .i64 e] 101)).alloc (.cells #[.int .i64 0, .int .i64 0] 101)) (w.heap.size) 101 [.int .i64 n, .int .i64 d] := by simpa using (BoxAt.alloc (BoxAt.alloc (BoxAt.new w 101 [.int .i64 n, .int .i64 d]) (.cells #[.int .i64 m, .int .i64 e] 101)) (.cells #[.int .i64 0, .int .i64 0] 101))
  have h2 : BoxAt (((w.alloc (.cells #[.int .i64 n, .int .i64 d] 101)).alloc (.cells #[.int .i64 m, .int .i64 e] 101)).alloc (.cells #[.int .i64 0, .int .i64 0] 101)) (w.heap.size + 1) 101 [.int .i64 m, .int .i64 e] := by simpa using (BoxAt.alloc (BoxAt.new (w.alloc (.cells #[.int .i64 n, .int .i64 d] 101)) 101 [.int .i64 m, .int .i64 e]) (.cells #[.int .i64 0, .int .i64 0] 101))
  have h3 : BoxAt (((w.alloc (.cells #[.int .i64 n, .int .i64 d] 101)).alloc (.cells #[.int .i64 m, .int .i64 e] 101)).alloc (.cells #[.int .i64 0, .int .i64 0] 101)) (w.heap.size + 1 + 1) 101 [.int .i64 0, .int .i64 0] := by simpa using (BoxAt.new ((w.alloc (.cells #[.int .i64 n, .int .i64 d] 101)).alloc (.cells #[.int .i64 m, .int .i64 e] 101)) 101 [.int .i64 0, .int .i64 0])
  have hs0 := (Same.alloc (Same.alloc (Same.alloc (Same.refl w) (.cells #[.int .i64 n, .int .i64 d] 101)) (.cells #[.int .i64 m, .int .i64 e] 101)) (.cells #[.int .i64 0, .int .i64 0] 101))
  generalize (((w.alloc (.cells #[.int .i64 n, .int .i64 d] 101)).alloc (.cells #[.int .i64 m, .int .i64 e] 101)).alloc (.cells #[.int .i64 0, .int .i64 0] 101)) = w0 at *
  refine (l02Small_any n d _).mono ?_
  rw [M1.out]
  rintro e' w2 ⟨rfl, hs2⟩
  have y0 := (h2.same hs2).cell 0 rfl
  have y1 := (h2.same hs2).cell 1 rfl
  have yL := (h2.same hs2).lt
  go_wp2_with fail
  clear y0 y1 yL
  refine (l02Small_any m e _).mono ?_
  rw [M2.out]
  rintro e' w3 ⟨rfl, hs3⟩
  have S3 := (hs0.trans hs2).trans hs3
  have T3 := hs2.trans hs3
  replace h1 := h1.same T3
  replace h2 := h2.same T3
  replace h3 := h3.same T3
  clear T3 hs3 hs2 hs0
  have y0 := h1.cell 0 rfl
  have y1 := h1.cell 1 rfl
  have yL := h1.lt
  have u0 := h2.cell 0 rfl
  have u1 := h2.cell 1 rfl
  have uL := h2.lt
  have x0 := h3.cell 0 rfl
  have x1 := h3.cell 1 rfl
  have xf0 := h3.frozen 0
  have xf1 := h3.frozen 1
  have xL := h3.lt
  go_wp2_with fail
  refine (l02Make_any u q _ (by omega) (by omega) (by omega)).mono ?_
  rw [← HR.out]
  rintro e' w4 ⟨rfl, hs4⟩
  replace h3 := h3.same hs4
  have S4 := S3.trans hs4
  clear x0 x1 xf0 xf1 xL y0 y1 yL u0 u1 uL
  have x0 := h3.cell 0 rfl
  have x1 := h3.cell 1 rfl
  have xf0 := h3.frozen 0
  have xf1 := h3.frozen 1
  have xL := h3.lt
  go_wp2
  have h9 := (h3.set 0 (.int .i64 (fracMul (n, d) (m, e)).1)).set 1 (.int .i64 (fracMul (n, d) (m, e)).2.1)
  have S9 := (S4.setCell (p := ⟨(w.heap.size + 1 + 1), 0, none⟩) (show w.heap.size ≤ w.heap.size + 1 + 1 by omega) (.int .i64 (fracMul (n, d) (m, e)).1)).setCell (p := ⟨(w.heap.size + 1 + 1), 1, none⟩) (show w.heap.size ≤ w.heap.size + 1 + 1 by omega) (.int .i64 (fracMul (n, d) (m, e)).2.1)
  generalize (w4.setCell ⟨(w.heap.size + 1 + 1), 0, none⟩ (.int .i64 (fracMul (n, d) (m, e)).1)).setCell ⟨(w.heap.size + 1 + 1), 1, none⟩ (.int .i64 (fracMul (n, d) (m, e)).2.1) = w9 at *
  have z0 := h9.cell 0 rfl
  have z1 := h9.cell 1 rfl
  exact bodyPost_ret (v := .tuple #[.agg #[.int .i64 (fracMul (n, d) (m, e)).1, .int .i64 (fracMul (n, d) (m, e)).2.1], .bool (fracMul (n, d) (m, e)).2.2]) (by simp [results, Tryz.results198, go_sem, z0, z1]) rfl ⟨rfl, S9⟩
end Go.Proofs.YtjfmknhnplefnaaGreat
end

section
/-
  Quotients and comparisons of fractions (the specification's side).
-/
namespace Go.Proofs.YtjfmknhnplefnaaGreat
open Go.RowKit
set_option linter.unusedVariables false
set_option linter.unusedSimpArgs false

set_option maxHeartbeats 1000000 in
theorem sFracDiv_no (n d m e : Int) (w : World) (h : (factorB (n, d) && factorB (m, e)) = false) :
    Calls Tryz.prog 199 #[.agg #[.int .i64 n, .int .i64 d], .agg #[.int .i64 m, .int .i64 e]] w fun e' w' => e' = .returned (.tuple #[.agg #[.int .i64 0, .int .i64 0], .bool false]) ∧ Same w w' := by
  cases m1 : factorB (n, d)
  · clear h
    go_enter Tryz.func199, Tryz.ntmps199
    go_wp2_with fail
    have h3 : BoxAt (((w.alloc (.cells #[.int .i64 n, .int .i64 d] 101)).alloc (.cells #[.int .i64 m, .int .i64 e] 101)).alloc (.cells #[.int .i64 0, .int .i64 0] 101)) (w.heap.size + 1 + 1) 101 [.int .i64 0, .int .i64 0] := by simpa using (BoxAt.new ((w.alloc (.cells #[.int .i64 n, .int .i64 d] 101)).alloc (.cells #[.int .i64 m, .int .i64 e] 101)) 101 [.int .i64 0, .int .i64 0])
    have hs0 := (Same.alloc (Same.alloc (Same.alloc (Same.refl w) (.cells #[.int .i64 n, .int .i64 d] 101)) (.cells #[.int .i64 m, .int .i64 e] 101)) (.cells #[.int .i64 0, .int .i64 0] 101))
    generalize (((w.alloc (.cells #[.int .i64 n, .int .i64 d] 101)).alloc (.cells #[.int .i64 m, .int .i64 e] 101)).alloc (.cells #[.int .i64 0, .int .i64 0] 101)) = w0 at *
    refine (l02Small_any n d _).mono ?_
    rw [m1]
    rintro e' w1 ⟨rfl, hs1⟩
    have S1 := hs0.trans hs1
    replace h3 := h3.same hs1
    have x0 := h3.cell 0 rfl
    have x1 := h3.cell 1 rfl
    have xf0 := h3.frozen 0
    have xf1 := h3.frozen 1
    have xL := h3.lt
    go_wp2
    have h9 := (h3.set 0 (.int .i64 0)).set 1 (.int .i64 0)
    have S9 := (S1.setCell (p := ⟨(w.heap.size + 1 + 1), 0, none⟩) (show w.heap.size ≤ w.heap.size + 1 + 1 by omega) (.int .i64 0)).setCell (p := ⟨(w.heap.size + 1 + 1), 1, none⟩) (show w.heap.size ≤ w.heap.size + 1 + 1 by omega) (.int .i64 0)
    generalize (w1.setCell ⟨(w.heap.size + 1 + 1), 0, none⟩ (.int .i64 0)).setCell ⟨(w.heap.size + 1 + 1), 1, none⟩ (.int .i64 0) = w9 at *
    have z0 := h9.cell 0 rfl
    have z1 := h9.cell 1 rfl
    exact bodyPost_ret (v := .tuple #[.agg #[.int .i64 0, .int .i64 0], .bool false]) (by simp [results, Tryz.results199, go_sem, z0, z1]) rfl ⟨rfl, S9⟩
  · have m2 : factorB (m, e) = false := by rw [m1] at h; exact h
    clear h
    go_enter Tryz.func199, Tryz.ntmps199
    go_wp2_with fail
    have h2 : BoxAt (((w.alloc (.cells #[.int .i64 n, .int .i64 d] 101)).alloc (.cells #[.int .i64 m, .int .i64 e] 101)).alloc (.cells #[.int .i64 0, .int .i64 0] 101)) (w.heap.size + 1) 101 [.int .i64 m, .int .i64 e] := by simpa using (BoxAt.alloc (BoxAt.new (w.alloc (.cells #[.int .i64 n, .int .i64 d] 101)) 101 [.int .i64 m, .int .i64 e]) (.cells #[.int .i64 0, .int .i64 0] 101))
    have h3 : BoxAt (((w.alloc (.cells #[.int .i64 n, .int .i64 d] 101)).alloc (.cells #[.int .i64 m, .int .i64 e] 101)).alloc (.cells #[.int .i64 0, .int .i64 0] 101)) (w.heap.size + 1 + 1) 101 [.int .i64 0, .int .i64 0] := by simpa using (BoxAt.new ((w.alloc (.cells #[.int .i64 n, .int .i64 d] 101)).alloc (.cells #[.int .i64 m, .int .i64 e] 101)) 101 [.int .i64 0, .int .i64 0])
    have hs0 := (Same.alloc (Same.alloc (Same.alloc (Same.refl w) (.cells #[.int .i64 n, .int .i64 d] 101)) (.cells #[.int .i64 m, .int .i64 e] 101)) (.cells #[.int .i64 0, .int .i64 0] 101))
    generalize (((w.alloc (.cells #[.int .i64 n, .int .i64 d] 101)).alloc (.cells #[.int .i64 m, .int .i64 e] 101)).alloc (.cells #[.int .i64 0, .int .i64 0] 101)) = w0 at *
    refine (l02Small_any n d _).mono ?_
    rw [m1]
    rintro e' w1 ⟨rfl, hs1⟩
    have hs2 := hs1
    clear hs1
    have S2 := hs0.trans hs2
    replace h2 := h2.same hs2
    replace h3 := h3.same hs2
    have y0 := h2.cell 0 rfl
    have y1 := h2.cell 1 rfl
    have yL := h2.lt
    go_wp2_with fail
    refine (l02Small_any m e _).mono ?_
    rw [m2]
    rintro e' w1 ⟨rfl, hs1⟩
    clear y0 y1 yL
    have S1 := S2.trans hs1
    replace h3 := h3.same hs1
    have x0 := h3.cell 0 rfl
    have x1 := h3.cell 1 rfl
    have xf0 := h3.frozen 0
    have xf1 := h3.frozen 1
    have xL := h3.lt
    go_wp2
    have h9 := (h3.set 0 (.int .i64 0)).set 1 (.int .i64 0)
    have S9 := (S1.setCell (p := ⟨(w.heap.size + 1 + 1), 0, none⟩) (show w.heap.size ≤ w.heap.size + 1 + 1 by omega) (.int .i64 0)).setCell (p := ⟨(w.heap.size + 1 + 1), 1, none⟩) (show w.heap.size ≤ w.heap.size + 1 + 1 by omega) (.int .i64 0)
    generalize (w1.setCell ⟨(w.heap.size + 1 + 1), 0, none⟩ (.int .i64 0)).setCell ⟨(w.heap.size + 1 + 1), 1, none⟩ (.int .i64 0) = w9 at *
    have z0 := h9.cell 0 rfl
    have z1 := h9.cell 1 rfl
    exact bodyPost_ret (v := .tuple #[.agg #[.int .i64 0, .int .i64 0], .bool false]) (by simp [results, Tryz.results199, go_sem, z0, z1]) rfl ⟨rfl, S9⟩

set_option maxRecDepth 10000 in
set_option maxHeartbeats 1000000 in
theorem sFracDiv_zero (n d m e : Int) (w : World) (m1 : factorB (n, d) = true) (m2 : factorB (m, e) = true) (h0 : m = 0) :
    Calls Tryz.prog 199 #[.agg #[.int .i64 n, .int .i64 d], .agg #[.int .i64 m, .int .i64 e]] w fun e' w' => e' = .returned (.tuple #[.agg #[.int .i64 0, .int .i64 0], .bool false]) ∧ Same w w' := by
  have M1 := Lib.hid m1
  have M2 := Lib.hid m2
  have b0 : (m == 0) = true := by simp [h0]
  clear m1 m2 h0
  go_enter Tryz.func199, Tryz.ntmps199
  go_wp2_with fail
  have h1 : BoxAt (((w.alloc (.cells #[.int .i64 n, .int .i64 d] 101)).alloc (.cells #[.int .i64 m, .int .i64 e] 101)).alloc (.cells #[.int .i64 0, .int .i64 0] 101)) (w.heap.size) 101 [.int .i64 n, .int .i64 d] := by simpa using (BoxAt.alloc (BoxAt.alloc (BoxAt.new w 101 [.int .i64 n, .int .i64 d]) (.cells #[.int .i64 m, .int .i64 e] 101)) (.cells #[.int .i64 0, .int .i64 0] 101))
  have h2 : BoxAt (((w.alloc (.cells #[.int .i64 n, .int .i64 d] 101)).alloc (.cells #[.int .i64 m, .int .i64 e] 101)).alloc (.cells #[.int .i64 0, .int .i64 0] 101)) (w.heap.size + 1) 101 [.int .i64 m, .int .i64 e] := by simpa using (BoxAt.alloc (BoxAt.new (w.alloc (.cells #[.int .i64 n, .int .i64 d] 101)) 101 [.int .i64 m, .int .i64 e]) (.cells #[.int .i64 0, .int .i64 0] 101))
  have h3 : BoxAt (((w.alloc (.cells #[.int .i64 n, .int .i64 d] 101)).alloc (.cells #[.int .i64 m, .int .i64 e] 101)).alloc (.cells #[.int .i64 0, .int .i64 0] 101)) (w.heap.size + 1 + 1) 101 [.int .i64 0, .int .i64 0] := by simpa using (BoxAt.new ((w.alloc (.cells #[.int .i64 n, .int .i64 d] 101)).alloc (.cells #[.int .i64 m, .int .i64 e] 101)) 101 [.int .i64 0, .int .i64 0])
  have hs0 := (Same.alloc (Same.alloc (Same.alloc (Same.refl w) (.cells #[.int .i64 n, .int .i64 d] 101)) (.cells #[.int .i64 m, .int .i64 e] 101)) (.cells #[.int .i64 0, .int .i64 0] 101))
  generalize (((w.alloc (.cells #[.int .i64 n, .int .i64 d] 101)).alloc (.cells #[.int .i64 m, .int .i64 e] 101)).alloc (.cells #[.int .i64 0, .int .i64 0] 101)) = w0 at *
  refine (l02Small_any n d _).mono ?_
  rw [M1.out]
  rintro e' w2 ⟨rfl, hs2⟩
  have y0 := (h2.same hs2).cell 0 rfl
  have y1 := (h2.same hs2).cell 1 rfl
  have yL := (h2.same hs2).lt
  go_wp2_with fail
  clear y0 y1 yL
  refine (l02Small_any m e _).mono ?_
  rw [M2.out]
  rintro e' w3 ⟨rfl, hs3⟩
  have S3 := (hs0.trans hs2).trans hs3
  have T3 := hs2.trans hs3
  replace h1 := h1.same T3
  replace h2 := h2.same T3
  replace h3 := h3.same T3
  clear T3 hs3 hs2 hs0
  have y0 := h1.cell 0 rfl
  have y1 := h1.cell 1 rfl
  have yL := h1.lt
  have u0 := h2.cell 0 rfl
  have u1 := h2.cell 1 rfl
  have uL := h2.lt
  have x0 := h3.cell 0 rfl
  have x1 := h3.cell 1 rfl
  have xf0 := h3.frozen 0
  have xf1 := h3.frozen 1
  have xL := h3.lt
  go_wp2
  have h9 := (h3.set 0 (.int .i64 0)).set 1 (.int .i64 0)
  have S9 := (S3.setCell (p := ⟨(w.heap.size + 1 + 1), 0, none⟩) (show w.heap.size ≤ w.heap.size + 1 + 1 by omega) (.int .i64 0)).setCell (p := ⟨(w.heap.size + 1 + 1), 1, none⟩) (show w.heap.size ≤ w.heap.size + 1 + 1 by omega) (.int .i64 0)
  generalize (w3.setCell ⟨(w.heap.size + 1 + 1), 0, none⟩ (.int .i64 0)).setCell ⟨(w.heap.size + 1 + 1), 1, none⟩ (.int .i64 0) = w9 at *
  have z0 := h9.cell 0 rfl
  have z1 := h9.cell 1 rfl
  exact bodyPost_ret (v := .tuple #[.agg #[.int .i64 0, .int .i64 0], .bool false]) (by simp [results, Tryz.results199, go_sem, z0, z1]) rfl ⟨rfl, S9⟩

set_option maxRecDepth 10000 in
set_option maxHeartbeats 1000000 in
theorem sFracDiv_yes (n d m e : Int) (w : World) (m1 : factorB (n, d) = true) (m2 : factorB (m, e) = true) (h0 : m ≠ 0) :
    Calls Tryz.prog 199 #[.agg #[.int .i64 n, .int .i64 d], .agg #[.int .i64 m, .int .i64 e]] w fun e' w' => e' = .returned (.tuple #[.agg #[.int .i64 (fracDiv (n, d) (m, e)).1, .int .i64 (fracDiv (n, d) (m, e)).2.1], .bool (fracDiv (n, d) (m, e)).2.2]) ∧ Same w w' := by
  have j1 := factorB_iff.1 m1
  have j2 := factorB_iff.1 m2
  have i1 := fracOk_iff.1 j1.1
  have i2 := fracOk_iff.1 j2.1
  have HR := Lib.hid (show fracDiv (n, d) (m, e) = lowest (n * e) (d * m) by simp [fracDiv, m1, m2, h0])
  have M1 := Lib.hid m1
  have M2 := Lib.hid m2
  clear m1 m2
  have hu := natAbs_mul_le (x := n) (y := e) (X := 1000000) (Y := 1000000) (by omega) (by omega)
  have hq := natAbs_mul_le (x := d) (y := m) (X := 1000000) (Y := 1000000) (by omega) (by omega)
  have hq0 : d * m ≠ 0 := fun h => by rcases Int.mul_eq_zero.1 h with h | h <;> omega
  obtain ⟨u, eu⟩ : ∃ u, n * e = u := ⟨_, rfl⟩
  obtain ⟨q, eq⟩ : ∃ q, d * m = q := ⟨_, rfl⟩
  rw [eu] at hu HR
  rw [eq] at hq hq0 HR
  have b0 : (m == 0) = false := by simp [h0]
  go_enter Tryz.func199, Tryz.ntmps199
  go_wp2_with fail
  have h1 : BoxAt (((w.alloc (.cells #[.int .i64 n, .int .i64 d] 101)).alloc (.cells #[.int .i64 m, .int .i64 e] 101)).alloc (.cells #[.int .i64 0, .int .i64 0] 101)) (w.heap.size) 101 [.int .i64 n, .int .i64 d] := by simpa using (BoxAt.alloc (BoxAt.alloc (BoxAt.new w 101 [.int .i64 n, .int .i64 d]) (.cells #[.int .i64 m, .int .i64 e] 101)) (.cells #[.int .i64 0, .int .i64 0] 101))
  have h2 : BoxAt (((w.alloc (.cells #[.int .i64 n, .int .i64 d] 101)).alloc (.cells #[.int .i64 m, .int .i64 e] 101)).alloc (.cells #[.int .i64 0, .int .i64 0] 101)) (w.heap.size + 1) 101 [.int .i64 m, .int .i64 e] := by simpa using (BoxAt.alloc (BoxAt.new (w.alloc (.cells #[.int .i64 n, .int .i64 d] 101)) 101 [.int .i64 m, .int .i64 e]) (.cells #[.int .i64 0, .int .i64 0] 101))
  have h3 : BoxAt (((w.alloc (.cells #[.int .i64 n, .int .i64 d] 101)).alloc (.cells #[.int .i64 m, .int .i64 e] 101)).alloc (.cells #[.int .i64 0, .int .i64 0] 101)) (w.heap.size + 1 + 1) 101 [.int .i64 0, .int .i64 0] := by simpa using (BoxAt.new ((w.alloc (.cells #[.int .i64 n, .int .i64 d] 101)).alloc (.cells #[.int .i64 m, .int .i64 e] 101)) 101 [.int .i64 0, .int .i64 0])
  have hs0 := (Same.alloc (Same.alloc (Same.alloc (Same.refl w) (.cells #[.int .i64 n, .int .i64 d] 101)) (.cells #[.int .i64 m, .int .i64 e] 101)) (.cells #[.int .i64 0, .int .i64 0] 101))
  generalize (((w.alloc (.cells #[.int .i64 n, .int .i64 d] 101)).alloc (.cells #[.int .i64 m, .int .i64 e] 101)).alloc (.cells #[.int .i64 0, .int .i64 0] 101)) = w0 at *
  refine (l02Small_any n d _).mono ?_
  rw [M1.out]
  rintro e' w2 ⟨rfl, hs2⟩
  have y0 := (h2.same hs2).cell 0 rfl
  have y1 := (h2.same hs2).cell 1 rfl
  have yL := (h2.same hs2).lt
  go_wp2_with fail
  clear y0 y1 yL
  refine (l02Small_any m e _).mono ?_
  rw [M2.out]
  rintro e' w3 ⟨rfl, hs3⟩
  have S3 := (hs0.trans hs2).trans hs3
  have T3 := hs2.trans hs3
  replace h1 := h1.same T3
  replace h2 := h2.same T3
  replace h3 := h3.same T3
  clear T3 hs3 hs2 hs0
  have y0 := h1.cell 0 rfl
  have y1 := h1.cell 1 rfl
  have yL := h1.lt
  have u0 := h2.cell 0 rfl
  have u1 := h2.cell 1 rfl
  have uL := h2.lt
  have x0 := h3.cell 0 rfl
  have x1 := h3.cell 1 rfl
  have xf0 := h3.frozen 0
  have xf1 := h3.frozen 1
  have xL := h3.lt
  go_wp2_with fail
  refine (l02Make_any u q _ (by omega) (by omega) (by omega)).mono ?_
  rw [← HR.out]
  rintro e' w4 ⟨rfl, hs4⟩
  replace h3 := h3.same hs4
  have S4 := S3.trans hs4
  clear x0 x1 xf0 xf1 xL y0 y1 yL u0 u1 uL
  have x0 := h3.cell 0 rfl
  have x1 := h3.cell 1 rfl
  have xf0 := h3.frozen 0
  have xf1 := h3.frozen 1
  have xL := h3.lt
  go_wp2
  have h9 := (h3.set 0 (.int .i64 (fracDiv (n, d) (m, e)).1)).set 1 (.int .i64 (fracDiv (n, d) (m, e)).2.1)
  have S9 := (S4.setCell (p := ⟨(w.heap.size + 1 + 1), 0, none⟩) (show w.heap.size ≤ w.heap.size + 1 + 1 by omega) (.int .i64 (fracDiv (n, d) (m, e)).1)).setCell (p := ⟨(w.heap.size + 1 + 1), 1, none⟩) (show w.heap.size ≤ w.heap.size + 1 + 1 by omega) (.int .i64 (fracDiv (n, d) (m, e)).2.1)
  generalize (w4.setCell ⟨(w.heap.size + 1 + 1), 0, none⟩ (.int .i64 (fracDiv (n, d) (m, e)).1)).setCell ⟨(w.heap.size + 1 + 1), 1, none⟩ (.int .i64 (fracDiv (n, d) (m, e)).2.1) = w9 at *
  have z0 := h9.cell 0 rfl
  have z1 := h9.cell 1 rfl
  exact bodyPost_ret (v := .tuple #[.agg #[.int .i64 (fracDiv (n, d) (m, e)).1, .int .i64 (fracDiv (n, d) (m, e)).2.1], .bool (fracDiv (n, d) (m, e)).2.2]) (by simp [results, Tryz.results199, go_sem, z0, z1]) rfl ⟨rfl, S9⟩

theorem sFracMul_any (n d m e : Int) (w : World) :
    Calls Tryz.prog 198 #[.agg #[.int .i64 n, .int .i64 d], .agg #[.int .i64 m, .int .i64 e]] w fun e' w' => e' = .returned (.tuple #[.agg #[.int .i64 (fracMul (n, d) (m, e)).1, .int .i64 (fracMul (n, d) (m, e)).2.1], .bool (fracMul (n, d) (m, e)).2.2]) ∧ Same w w' := by
  cases h : factorB (n, d) && factorB (m, e)
  · refine (sFracMul_no n d m e w h).mono ?_
    rintro e' w' ⟨rfl, hw⟩
    have hz : fracMul (n, d) (m, e) = (0, 0, false) := by unfold fracMul; rw [h]; rfl
    rw [hz]
    exact ⟨rfl, hw⟩
  · rw [Bool.and_eq_true] at h
    exact sFracMul_yes n d m e w h.1 h.2

theorem sFracDiv_any (n d m e : Int) (w : World) :
    Calls Tryz.prog 199 #[.agg #[.int .i64 n, .int .i64 d], .agg #[.int .i64 m, .int .i64 e]] w fun e' w' => e' = .returned (.tuple #[.agg #[.int .i64 (fracDiv (n, d) (m, e)).1, .int .i64 (fracDiv (n, d) (m, e)).2.1], .bool (fracDiv (n, d) (m, e)).2.2]) ∧ Same w w' := by
  cases h : factorB (n, d) && factorB (m, e)
  · refine (sFracDiv_no n d m e w h).mono ?_
    rintro e' w' ⟨rfl, hw⟩
    have hz : fracDiv (n, d) (m, e) = (0, 0, false) := by unfold fracDiv; rw [h]; rfl
    rw [hz]
    exact ⟨rfl, hw⟩
  · rw [Bool.and_eq_true] at h
    by_cases h0 : m = 0
    · refine (sFracDiv_zero n d m e w h.1 h.2 h0).mono ?_
      rintro e' w' ⟨rfl, hw⟩
      have hz : fracDiv (n, d) (m, e) = (0, 0, false) := by unfold fracDiv; simp [h0]
      rw [hz]
      exact ⟨rfl, hw⟩
    · exact sFracDiv_yes n d m e w h.1 h.2 h0

set_option maxRecDepth 10000 in
set_option maxHeartbeats 1000000 in
theorem sFracCmp_yes (n d m e : Int) (w : World) (m1 : fracOk n d = true) (m2 : fracOk m e = true) :
    Calls Tryz.prog 200 #[.agg #[.int .i64 n, .int .i64 d], .agg #[.int .i64 m, .int .i64 e]] w fun e' w' => e' = .returned (.int .i64 (fracCmp (n, d) (m, e))) ∧ Same w w' := by
  have i1 := fracOk_iff.1 m1
  have i2 := fracOk_iff.1 m2
  have HR := Lib.hid (show fracCmp (n, d) (m, e) = if n * e < m * d then -1 else if m * d < n * e then 1 else 0 by simp [fracCmp, m1, m2])
  have M1 := Lib.hid m1
  have M2 := Lib.hid m2
  clear m1 m2
  have hu := natAbs_mul_le (x := n) (y := e) (X := 1000000000000) (Y := 1000000) (by omega) (by omega)
  have hq := natAbs_mul_le (x := m) (y := d) (X := 1000000000000) (Y := 1000000) (by omega) (by omega)
  obtain ⟨u, eu⟩ : ∃ u, n * e = u := ⟨_, rfl⟩
  obtain ⟨q, eq⟩ : ∃ q, m * d = q := ⟨_, rfl⟩
  rw [eu, eq] at HR
  rw [eu] at hu
  rw [eq] at hq
  go_enter Tryz.func200, Tryz.ntmps200
  go_wp2_with fail
  have h1 : BoxAt ((w.alloc (.cells #[.int .i64 n, .int .i64 d] 101)).alloc (.cells #[.int .i64 m, .int .i64 e] 101)) (w.heap.size) 101 [.int .i64 n, .int .i64 d] := by simpa using (BoxAt.alloc (BoxAt.new w 101 [.int .i64 n, .int .i64 d]) (.cells #[.int .i64 m, .int .i64 e] 101))
  have h2 : BoxAt ((w.alloc (.cells #[.int .i64 n, .int .i64 d] 101)).alloc (.cells #[.int .i64 m, .int .i64 e] 101)) (w.heap.size + 1) 101 [.int .i64 m, .int .i64 e] := by simpa using (BoxAt.new (w.alloc (.cells #[.int .i64 n, .int .i64 d] 101)) 101 [.int .i64 m, .int .i64 e])
  have hs0 := (Same.alloc (Same.alloc (Same.refl w) (.cells #[.int .i64 n, .int .i64 d] 101)) (.cells #[.int .i64 m, .int .i64 e] 101))
  generalize ((w.alloc (.cells #[.int .i64 n, .int .i64 d] 101)).alloc (.cells #[.int .i64 m, .int .i64 e] 101)) = w0 at *
  refine (sFracOk_any n d _).mono ?_
  rw [M1.out]
  rintro e' w2 ⟨rfl, hs2⟩
  have y0 := (h2.same hs2).cell 0 rfl
  have y1 := (h2.same hs2).cell 1 rfl
  have yL := (h2.same hs2).lt
  go_wp2_with fail
  clear y0 y1 yL
  refine (sFracOk_any m e _).mono ?_
  rw [M2.out]
  rintro e' w3 ⟨rfl, hs3⟩
  have S3 := (hs0.trans hs2).trans hs3
  have T3 := hs2.trans hs3
  replace h1 := h1.same T3
  replace h2 := h2.same T3
  clear T3 hs3 hs2 hs0
  have y0 := h1.cell 0 rfl
  have y1 := h1.cell 1 rfl
  have yL := h1.lt
  have u0 := h2.cell 0 rfl
  have u1 := h2.cell 1 rfl
  have uL := h2.lt
  go_wp2
  all_goals go_ret
  all_goals exact ⟨ret_int (by rw [HR.out]; clear HR M1 M2; (repeat' split) <;> omega), S3⟩

set_option maxHeartbeats 1000000 in
theorem sFracCmp_no (n d m e : Int) (w : World) (h : (fracOk n d && fracOk m e) = false) :
    Calls Tryz.prog 200 #[.agg #[.int .i64 n, .int .i64 d], .agg #[.int .i64 m, .int .i64 e]] w fun e' w' => e' = .returned (.int .i64 2) ∧ Same w w' := by
  cases m1 : fracOk n d
  · clear h
    go_enter Tryz.func200, Tryz.ntmps200
    go_wp2_with fail
    have hs0 := (Same.alloc (Same.alloc (Same.refl w) (.cells #[.int .i64 n, .int .i64 d] 101)) (.cells #[.int .i64 m, .int .i64 e] 101))
    generalize ((w.alloc (.cells #[.int .i64 n, .int .i64 d] 101)).alloc (.cells #[.int .i64 m, .int .i64 e] 101)) = w0 at *
    refine (sFracOk_any n d _).mono ?_
    rw [m1]
    rintro e' w1 ⟨rfl, hs1⟩
    have S1 := hs0.trans hs1
    go_wp2
    go_ret
    exact ⟨rfl, S1⟩
  · have m2 : fracOk m e = false := by rw [m1] at h; exact h
    clear h
    go_enter Tryz.func200, Tryz.ntmps200
    go_wp2_with fail
    have h2 : BoxAt ((w.alloc (.cells #[.int .i64 n, .int .i64 d] 101)).alloc (.cells #[.int .i64 m, .int .i64 e] 101)) (w.heap.size + 1) 101 [.int .i64 m, .int .i64 e] := by simpa using (BoxAt.new (w.alloc (.cells #[.int .i64 n, .int .i64 d] 101)) 101 [.int .i64 m, .int .i64 e])
    have hs0 := (Same.alloc (Same.alloc (Same.refl w) (.cells #[.int .i64 n, .int .i64 d] 101)) (.cells #[.int .i64 m, .int .i64 e] 101))
    generalize ((w.alloc (.cells #[.int .i64 n, .int .i64 d] 101)).alloc (.cells #[.int .i64 m, .int .i64 e] 101)) = w0 at *
    refine (sFracOk_any n d _).mono ?_
    rw [m1]
    rintro e' w1 ⟨rfl, hs1⟩
    have hs2 := hs1
    clear hs1
    have S2 := hs0.trans hs2
    replace h2 := h2.same hs2
    have y0 := h2.cell 0 rfl
    have y1 := h2.cell 1 rfl
    have yL := h2.lt
    go_wp2_with fail
    refine (sFracOk_any m e _).mono ?_
    rw [m2]
    rintro e' w1 ⟨rfl, hs1⟩
    clear y0 y1 yL
    have S1 := S2.trans hs1
    go_wp2
    go_ret
    exact ⟨rfl, S1⟩

theorem sFracCmp_any (n d m e : Int) (w : World) :
    Calls Tryz.prog 200 #[.agg #[.int .i64 n, .int .i64 d], .agg #[.int .i64 m, .int .i64 e]] w fun e' w' => e' = .returned (.int .i64 (fracCmp (n, d) (m, e))) ∧ Same w w' := by
  cases h : fracOk n d && fracOk m e
  · refine (sFracCmp_no n d m e w h).mono ?_
    rintro e' w' ⟨rfl, hw⟩
    have hz : fracCmp (n, d) (m, e) = 2 := by unfold fracCmp; rw [h]; rfl
    rw [hz]
    exact ⟨rfl, hw⟩
  · rw [Bool.and_eq_true] at h
    exact sFracCmp_yes n d m e w h.1 h.2
end Go.Proofs.YtjfmknhnplefnaaGreat
end

