/- Joined of Round, Round2: what is proved stands ahead of each part. -/
import Derived.Test.YtjfmknhnplefnaaGreatZFracI
import Derived.Test.YtjfmknhnplefnaaGreatZPlain

section
/-
  Fractions rounded, either side.
-/
namespace Go.Proofs.YtjfmknhnplefnaaGreat
open Go.RowKit
set_option linter.unusedVariables false
set_option linter.unusedSimpArgs false

theorem tmod_sign (n d : Int) (hd : 0 < d) : (0 ≤ n → 0 ≤ n.tmod d) ∧ (n < 0 → n.tmod d ≤ 0) ∧ (n.tmod d).natAbs < d.natAbs := by
  refine ⟨fun h => Int.tmod_nonneg d h, fun h => ?_, tmod_small n d (by omega)⟩
  have h1 : 0 ≤ (-n).tmod d := Int.tmod_nonneg d (by omega)
  rw [Int.neg_tmod] at h1
  omega
theorem floor_eq (n d : Int) (hd : 0 < d) : n / d = if n.tmod d < 0 then n.tdiv d - 1 else n.tdiv d := by
  obtain ⟨h1, h2, h3⟩ := tmod_sign n d hd
  have he := Int.mul_tdiv_add_tmod n d
  split
  · rename_i hr
    have := (Int.ediv_emod_unique (a := n) (r := n.tmod d + d) (q := n.tdiv d - 1) hd).2 ⟨by rw [Int.mul_sub, Int.mul_one]; omega, by omega, by omega⟩
    exact this.1
  · rename_i hr
    have := (Int.ediv_emod_unique (a := n) (r := n.tmod d) (q := n.tdiv d) hd).2 ⟨by omega, by omega, by omega⟩
    exact this.1
theorem tmod_neg_iff (n d : Int) (hd : 0 < d) : n.tmod d < 0 ↔ n < 0 ∧ n.tmod d ≠ 0 := by
  obtain ⟨h1, h2, h3⟩ := tmod_sign n d hd
  constructor
  · intro h
    refine ⟨?_, by omega⟩
    by_cases h0 : n < 0
    · exact h0
    · have := h1 (by omega); omega
  · rintro ⟨h, h0⟩
    have := h2 h
    omega
theorem and_one (y : Int) (h : y.natAbs ≤ 4611686018427387904) : (bits .and .i64 y 1 == 1) = decide (y % 2 ≠ 0) := by
  have e : bits .and .i64 y 1 = y % 2 := by
    show IntKind.i64.wrap ((BitVec.ofInt 64 y &&& BitVec.ofInt 64 1).toNat : Int) = y % 2
    have h1 : (BitVec.ofInt 64 y &&& BitVec.ofInt 64 1).toNat = (BitVec.ofInt 64 y).toNat % 2 := by
      rw [BitVec.toNat_and]
      exact Nat.and_one_is_mod _
    rw [h1, BitVec.toNat_ofInt, IntKind.wrap_i64]
    omega
  rw [e]
  have := Int.emod_two_eq y
  rcases this with h0 | h0 <;> rw [h0] <;> rfl

set_option maxHeartbeats 1000000 in
theorem floorDiv_any (n d : Int) (w : World) (hn : n.natAbs ≤ 1000000000000) (h0 : 0 < d) (h1 : d ≤ 1000000) :
    Calls Tryz.prog 164 #[.int .i64 n, .int .i64 d] w fun e w' => e = .returned (.int .i64 (n / d)) ∧ w = w' := by
  have HV := Lib.hid (floor_eq n d h0)
  obtain ⟨_, _, h3⟩ := tmod_sign n d h0
  have h4 : (n.tdiv d).natAbs ≤ n.natAbs := by rw [Int.natAbs_tdiv]; exact Nat.div_le_self _ _
  obtain ⟨q, hq⟩ : ∃ q, n.tdiv d = q := ⟨_, rfl⟩
  obtain ⟨r, hr⟩ : ∃ r, n.tmod d = r := ⟨_, rfl⟩
  rw [hq] at h4 HV
  rw [hr] at h3 HV
  have b0 : (d == 0) = false := by simp; omega
  go_enter Tryz.func164, Tryz.ntmps164
  go_wp2
  all_goals go_ret
  all_goals exact ⟨ret_int (by rw [HV.out]; split <;> omega), rfl⟩

set_option maxHeartbeats 1000000 in
theorem sFloorFrac_any (n d : Int) (w : World) (hok : fracOk n d = true) :
    Calls Tryz.prog 127 #[.agg #[.int .i64 n, .int .i64 d]] w fun e w' => e = .returned (.int .i64 (n / d)) ∧ Same w w' := by
  have hi := fracOk_iff.1 hok
  have HV := Lib.hid (floor_eq n d (by omega))
  have HT := Lib.hid (tmod_neg_iff n d (by omega))
  obtain ⟨_, _, h3⟩ := tmod_sign n d (by omega)
  have h4 : (n.tdiv d).natAbs ≤ n.natAbs := by rw [Int.natAbs_tdiv]; exact Nat.div_le_self _ _
  obtain ⟨q, hq⟩ : ∃ q, n.tdiv d = q := ⟨_, rfl⟩
  obtain ⟨r, hr⟩ : ∃ r, n.tmod d = r := ⟨_, rfl⟩
  rw [hq] at h4 HV
  rw [hr] at h3 HV HT
  have b0 : (d == 0) = false := by simp; omega
  have HO := Lib.hid hok
  clear hok
  by_cases c1 : n < 0
  · by_cases c2 : r = 0
    · have HW := Lib.hid (show n / d = q by rw [HV.out, if_neg (by omega)])
      have b1 : (r != 0) = false := by simp [c2]
      clear c2
      go_enter Tryz.func127, Tryz.ntmps127
      go_wp2_with fail
      have h1 : BoxAt (w.alloc (.cells #[.int .i64 n, .int .i64 d] 101)) (w.heap.size) 101 [.int .i64 n, .int .i64 d] := by simpa using (BoxAt.new w 101 [.int .i64 n, .int .i64 d])
      have hs0 := (Same.alloc (Same.refl w) (.cells #[.int .i64 n, .int .i64 d] 101))
      generalize (w.alloc (.cells #[.int .i64 n, .int .i64 d] 101)) = w0 at *
      refine (sFracOk_any n d _).mono ?_
      rw [HO.out]
      rintro e w1 ⟨rfl, hs1⟩
      have y0 := (h1.same hs1).cell 0 rfl
      have y1 := (h1.same hs1).cell 1 rfl
      have yL := (h1.same hs1).lt
      go_wp2
      go_ret
      exact ⟨ret_int HW.out.symm, hs0.trans hs1⟩
    · have HW := Lib.hid (show n / d = q - 1 by rw [HV.out, if_pos (HT.out.2 ⟨c1, c2⟩)])
      have b1 : (r != 0) = true := by simp [c2]
      clear c2
      go_enter Tryz.func127, Tryz.ntmps127
      go_wp2_with fail
      have h1 : BoxAt (w.alloc (.cells #[.int .i64 n, .int .i64 d] 101)) (w.heap.size) 101 [.int .i64 n, .int .i64 d] := by simpa using (BoxAt.new w 101 [.int .i64 n, .int .i64 d])
      have hs0 := (Same.alloc (Same.refl w) (.cells #[.int .i64 n, .int .i64 d] 101))
      generalize (w.alloc (.cells #[.int .i64 n, .int .i64 d] 101)) = w0 at *
      refine (sFracOk_any n d _).mono ?_
      rw [HO.out]
      rintro e w1 ⟨rfl, hs1⟩
      have y0 := (h1.same hs1).cell 0 rfl
      have y1 := (h1.same hs1).cell 1 rfl
      have yL := (h1.same hs1).lt
      go_wp2
      go_ret
      exact ⟨ret_int HW.out.symm, hs0.trans hs1⟩
  · have HW := Lib.hid (show n / d = q by rw [HV.out, if_neg (fun h => c1 (HT.out.1 h).1)])
    go_enter Tryz.func127, Tryz.ntmps127
    go_wp2_with fail
    have h1 : BoxAt (w.alloc (.cells #[.int .i64 n, .int .i64 d] 101)) (w.heap.size) 101 [.int .i64 n, .int .i64 d] := by simpa using (BoxAt.new w 101 [.int .i64 n, .int .i64 d])
    have hs0 := (Same.alloc (Same.refl w) (.cells #[.int .i64 n, .int .i64 d] 101))
    generalize (w.alloc (.cells #[.int .i64 n, .int .i64 d] 101)) = w0 at *
    refine (sFracOk_any n d _).mono ?_
    rw [HO.out]
    rintro e w1 ⟨rfl, hs1⟩
    have y0 := (h1.same hs1).cell 0 rfl
    have y1 := (h1.same hs1).cell 1 rfl
    have yL := (h1.same hs1).lt
    go_wp2
    go_ret
    exact ⟨ret_int HW.out.symm, hs0.trans hs1⟩
end Go.Proofs.YtjfmknhnplefnaaGreat
end

section
/-
  RoundFrac, either side.
-/
namespace Go.Proofs.YtjfmknhnplefnaaGreat
open Go.RowKit
set_option linter.unusedVariables false
set_option linter.unusedSimpArgs false

theorem floor_range (n d : Int) (hd : 0 < d) : 0 ≤ n - n / d * d ∧ n - n / d * d < d ∧ (n / d).natAbs ≤ n.natAbs + 1 := by
  have h1 := Int.emod_nonneg n (show d ≠ 0 by omega)
  have h2 := Int.emod_lt_of_pos n hd
  have h3 := Int.mul_ediv_add_emod n d
  have h4 : (n.tdiv d).natAbs ≤ n.natAbs := by rw [Int.natAbs_tdiv]; exact Nat.div_le_self _ _
  have h5 := floor_eq n d hd
  rw [Int.mul_comm] at h3
  refine ⟨by omega, by omega, ?_⟩
  rw [h5]
  split <;> omega
theorem tmod_two (y : Int) : (y.tmod 2 != 0) = decide (y % 2 ≠ 0) := by
  have h1 := Int.mul_tdiv_add_tmod y 2
  obtain ⟨_, _, h3⟩ := tmod_sign y 2 (by omega)
  obtain ⟨q, hq⟩ : ∃ q, y.tdiv 2 = q := ⟨_, rfl⟩
  obtain ⟨r, hr⟩ : ∃ r, y.tmod 2 = r := ⟨_, rfl⟩
  rw [hq, hr] at h1
  rw [hr] at h3 ⊢
  rw [Bool.eq_iff_iff]
  simp
  omega
theorem roundFrac_yes {n d mode : Int} (h1 : fracOk n d = true) (h2 : inB mode 1 4 = true) : roundFrac n d mode = (if upB (n / d) (n - n / d * d) d mode then n / d + 1 else n / d, true) := by
  unfold roundFrac; rw [h1, h2]; rfl
theorem roundFrac_no {n d mode : Int} (h : (fracOk n d && inB mode 1 4) = false) : roundFrac n d mode = (0, false) := by
  unfold roundFrac; rw [h]; rfl

set_option maxHeartbeats 1000000 in
theorem sRoundFrac_no (n d mode : Int) (w : World) (h : (fracOk n d && inB mode 1 4) = false) :
    Calls Tryz.prog 71 #[.agg #[.int .i64 n, .int .i64 d], .int .i64 mode] w fun e w' => e = .returned (.tuple #[.int .i64 0, .bool false]) ∧ Same w w' := by
  cases m1 : fracOk n d
  · go_enter Tryz.func71, Tryz.ntmps71
    go_wp2_with fail
    refine (sFracOk_any n d _).mono ?_
    rw [m1]
    rintro e w1 ⟨rfl, hs1⟩
    go_wp2
    go_ret2
    exact ⟨rfl, ((Same.refl w).alloc _).trans hs1⟩
  · have m2 : inB mode 1 4 = false := by rw [m1] at h; exact h
    go_enter Tryz.func71, Tryz.ntmps71
    go_wp2_with fail
    refine (sFracOk_any n d _).mono ?_
    rw [m1]
    rintro e w1 ⟨rfl, hs1⟩
    go_wp2_with fail
    refine (l01In_any _ _ _ _).mono ?_
    rw [m2]
    rintro e w1 ⟨rfl, rfl⟩
    go_wp2
    go_ret2
    exact ⟨rfl, ((Same.refl w).alloc _).trans hs1⟩

set_option maxRecDepth 10000 in
set_option maxHeartbeats 2000000 in
theorem sRound_1 (n d x : Int) (w : World) (hok : fracOk n d = true) (hx : Hid (x = if upB (n / d) (n - n / d * d) d 1 then n / d + 1 else n / d)) :
    Calls Tryz.prog 71 #[.agg #[.int .i64 n, .int .i64 d], .int .i64 1] w fun e w' => e = .returned (.tuple #[.int .i64 x, .bool true]) ∧ Same w w' := by
  have hi := fracOk_iff.1 hok
  have hr := floor_range n d (by omega)
  have HO := Lib.hid hok
  have HF := Lib.hid (fun w => sFloorFrac_any n d w hok)
  have HB : Hid (inB 1 1 4 = true) := rfl
  clear hok
  obtain ⟨low, hlow⟩ : ∃ low, n / d = low := ⟨_, rfl⟩
  rw [hlow] at hr hx HF
  have hpr := natAbs_mul_le (x := low) (y := d) (X := 1000000000001) (Y := 1000000) (by omega) (by omega)
  obtain ⟨p, hp⟩ : ∃ p, low * d = p := ⟨_, rfl⟩
  rw [hp] at hr hpr hx
  obtain ⟨rest, hrest⟩ : ∃ rest, n - p = rest := ⟨_, rfl⟩
  rw [hrest] at hr hx
  have hlo : low.natAbs ≤ 1000000000001 := by omega
  clear hlow
  have HW := Lib.hid (show x = low by rw [hx.out]; simp [upB, *])
  clear hx
  go_enter Tryz.func71, Tryz.ntmps71
  go_wp2_with fail
  have h1 : BoxAt (w.alloc (.cells #[.int .i64 n, .int .i64 d] 101)) (w.heap.size) 101 [.int .i64 n, .int .i64 d] := by simpa using (BoxAt.new w 101 [.int .i64 n, .int .i64 d])
  have hs0 := (Same.alloc (Same.refl w) (.cells #[.int .i64 n, .int .i64 d] 101))
  generalize (w.alloc (.cells #[.int .i64 n, .int .i64 d] 101)) = w0 at *
  refine (sFracOk_any n d _).mono ?_
  rw [HO.out]
  rintro e w1 ⟨rfl, hs1⟩
  replace h1 := h1.same hs1
  have S1 := hs0.trans hs1
  have y0 := h1.cell 0 rfl
  have y1 := h1.cell 1 rfl
  have yL := h1.lt
  go_wp2_with fail
  refine (l01In_any _ _ _ _).mono ?_
  rw [HB.out]
  rintro e w2 ⟨rfl, rfl⟩
  go_wp2_with fail
  refine (HF.out _).mono ?_
  rintro e w3 ⟨rfl, hs3⟩
  clear y0 y1 yL
  have y0 := (h1.same hs3).cell 0 rfl
  have y1 := (h1.same hs3).cell 1 rfl
  have yL := (h1.same hs3).lt
  go_wp2
  go_ret2
  exact ⟨by rw [HW.out]; rfl, S1.trans hs3⟩

set_option maxRecDepth 10000 in
set_option maxHeartbeats 2000000 in
theorem sRound_2 (n d x : Int) (w : World) (hok : fracOk n d = true) (hx : Hid (x = if upB (n / d) (n - n / d * d) d 2 then n / d + 1 else n / d)) :
    Calls Tryz.prog 71 #[.agg #[.int .i64 n, .int .i64 d], .int .i64 2] w fun e w' => e = .returned (.tuple #[.int .i64 x, .bool true]) ∧ Same w w' := by
  have hi := fracOk_iff.1 hok
  have hr := floor_range n d (by omega)
  have HO := Lib.hid hok
  have HF := Lib.hid (fun w => sFloorFrac_any n d w hok)
  have HB : Hid (inB 2 1 4 = true) := rfl
  clear hok
  obtain ⟨low, hlow⟩ : ∃ low, n / d = low := ⟨_, rfl⟩
  rw [hlow] at hr hx HF
  have hpr := natAbs_mul_le (x := low) (y := d) (X := 1000000000001) (Y := 1000000) (by omega) (by omega)
  obtain ⟨p, hp⟩ : ∃ p, low * d = p := ⟨_, rfl⟩
  rw [hp] at hr hpr hx
  obtain ⟨rest, hrest⟩ : ∃ rest, n - p = rest := ⟨_, rfl⟩
  rw [hrest] at hr hx
  have hlo : low.natAbs ≤ 1000000000001 := by omega
  clear hlow
  by_cases c1 : 0 < rest
  · skip
    have HW := Lib.hid (show x = low + 1 by rw [hx.out]; simp [upB, *])
    clear hx
    go_enter Tryz.func71, Tryz.ntmps71
    go_wp2_with fail
    have h1 : BoxAt (w.alloc (.cells #[.int .i64 n, .int .i64 d] 101)) (w.heap.size) 101 [.int .i64 n, .int .i64 d] := by simpa using (BoxAt.new w 101 [.int .i64 n, .int .i64 d])
    have hs0 := (Same.alloc (Same.refl w) (.cells #[.int .i64 n, .int .i64 d] 101))
    generalize (w.alloc (.cells #[.int .i64 n, .int .i64 d] 101)) = w0 at *
    refine (sFracOk_any n d _).mono ?_
    rw [HO.out]
    rintro e w1 ⟨rfl, hs1⟩
    replace h1 := h1.same hs1
    have S1 := hs0.trans hs1
    have y0 := h1.cell 0 rfl
    have y1 := h1.cell 1 rfl
    have yL := h1.lt
    go_wp2_with fail
    refine (l01In_any _ _ _ _).mono ?_
    rw [HB.out]
    rintro e w2 ⟨rfl, rfl⟩
    go_wp2_with fail
    refine (HF.out _).mono ?_
    rintro e w3 ⟨rfl, hs3⟩
    clear y0 y1 yL
    have y0 := (h1.same hs3).cell 0 rfl
    have y1 := (h1.same hs3).cell 1 rfl
    have yL := (h1.same hs3).lt
    go_wp2
    go_ret2
    exact ⟨by rw [HW.out]; rfl, S1.trans hs3⟩
  · skip
    have HW := Lib.hid (show x = low by rw [hx.out]; simp [upB, *])
    clear hx
    go_enter Tryz.func71, Tryz.ntmps71
    go_wp2_with fail
    have h1 : BoxAt (w.alloc (.cells #[.int .i64 n, .int .i64 d] 101)) (w.heap.size) 101 [.int .i64 n, .int .i64 d] := by simpa using (BoxAt.new w 101 [.int .i64 n, .int .i64 d])
    have hs0 := (Same.alloc (Same.refl w) (.cells #[.int .i64 n, .int .i64 d] 101))
    generalize (w.alloc (.cells #[.int .i64 n, .int .i64 d] 101)) = w0 at *
    refine (sFracOk_any n d _).mono ?_
    rw [HO.out]
    rintro e w1 ⟨rfl, hs1⟩
    replace h1 := h1.same hs1
    have S1 := hs0.trans hs1
    have y0 := h1.cell 0 rfl
    have y1 := h1.cell 1 rfl
    have yL := h1.lt
    go_wp2_with fail
    refine (l01In_any _ _ _ _).mono ?_
    rw [HB.out]
    rintro e w2 ⟨rfl, rfl⟩
    go_wp2_with fail
    refine (HF.out _).mono ?_
    rintro e w3 ⟨rfl, hs3⟩
    clear y0 y1 yL
    have y0 := (h1.same hs3).cell 0 rfl
    have y1 := (h1.same hs3).cell 1 rfl
    have yL := (h1.same hs3).lt
    go_wp2
    go_ret2
    exact ⟨by rw [HW.out]; rfl, S1.trans hs3⟩

set_option maxRecDepth 10000 in
set_option maxHeartbeats 2000000 in
theorem sRound_3 (n d x : Int) (w : World) (hok : fracOk n d = true) (hx : Hid (x = if upB (n / d) (n - n / d * d) d 3 then n / d + 1 else n / d)) :
    Calls Tryz.prog 71 #[.agg #[.int .i64 n, .int .i64 d], .int .i64 3] w fun e w' => e = .returned (.tuple #[.int .i64 x, .bool true]) ∧ Same w w' := by
  have hi := fracOk_iff.1 hok
  have hr := floor_range n d (by omega)
  have HO := Lib.hid hok
  have HF := Lib.hid (fun w => sFloorFrac_any n d w hok)
  have HB : Hid (inB 3 1 4 = true) := rfl
  clear hok
  obtain ⟨low, hlow⟩ : ∃ low, n / d = low := ⟨_, rfl⟩
  rw [hlow] at hr hx HF
  have hpr := natAbs_mul_le (x := low) (y := d) (X := 1000000000001) (Y := 1000000) (by omega) (by omega)
  obtain ⟨p, hp⟩ : ∃ p, low * d = p := ⟨_, rfl⟩
  rw [hp] at hr hpr hx
  obtain ⟨rest, hrest⟩ : ∃ rest, n - p = rest := ⟨_, rfl⟩
  rw [hrest] at hr hx
  have hlo : low.natAbs ≤ 1000000000001 := by omega
  clear hlow
  by_cases c1 : d ≤ 2 * rest
  · skip
    have HW := Lib.hid (show x = low + 1 by rw [hx.out]; simp [upB, *])
    clear hx
    go_enter Tryz.func71, Tryz.ntmps71
    go_wp2_with fail
    have h1 : BoxAt (w.alloc (.cells #[.int .i64 n, .int .i64 d] 101)) (w.heap.size) 101 [.int .i64 n, .int .i64 d] := by simpa using (BoxAt.new w 101 [.int .i64 n, .int .i64 d])
    have hs0 := (Same.alloc (Same.refl w) (.cells #[.int .i64 n, .int .i64 d] 101))
    generalize (w.alloc (.cells #[.int .i64 n, .int .i64 d] 101)) = w0 at *
    refine (sFracOk_any n d _).mono ?_
    rw [HO.out]
    rintro e w1 ⟨rfl, hs1⟩
    replace h1 := h1.same hs1
    have S1 := hs0.trans hs1
    have y0 := h1.cell 0 rfl
    have y1 := h1.cell 1 rfl
    have yL := h1.lt
    go_wp2_with fail
    refine (l01In_any _ _ _ _).mono ?_
    rw [HB.out]
    rintro e w2 ⟨rfl, rfl⟩
    go_wp2_with fail
    refine (HF.out _).mono ?_
    rintro e w3 ⟨rfl, hs3⟩
    clear y0 y1 yL
    have y0 := (h1.same hs3).cell 0 rfl
    have y1 := (h1.same hs3).cell 1 rfl
    have yL := (h1.same hs3).lt
    go_wp2
    go_ret2
    exact ⟨by rw [HW.out]; rfl, S1.trans hs3⟩
  · skip
    have HW := Lib.hid (show x = low by rw [hx.out]; simp [upB, *])
    clear hx
    go_enter Tryz.func71, Tryz.ntmps71
    go_wp2_with fail
    have h1 : BoxAt (w.alloc (.cells #[.int .i64 n, .int .i64 d] 101)) (w.heap.size) 101 [.int .i64 n, .int .i64 d] := by simpa using (BoxAt.new w 101 [.int .i64 n, .int .i64 d])
    have hs0 := (Same.alloc (Same.refl w) (.cells #[.int .i64 n, .int .i64 d] 101))
    generalize (w.alloc (.cells #[.int .i64 n, .int .i64 d] 101)) = w0 at *
    refine (sFracOk_any n d _).mono ?_
    rw [HO.out]
    rintro e w1 ⟨rfl, hs1⟩
    replace h1 := h1.same hs1
    have S1 := hs0.trans hs1
    have y0 := h1.cell 0 rfl
    have y1 := h1.cell 1 rfl
    have yL := h1.lt
    go_wp2_with fail
    refine (l01In_any _ _ _ _).mono ?_
    rw [HB.out]
    rintro e w2 ⟨rfl, rfl⟩
    go_wp2_with fail
    refine (HF.out _).mono ?_
    rintro e w3 ⟨rfl, hs3⟩
    clear y0 y1 yL
    have y0 := (h1.same hs3).cell 0 rfl
    have y1 := (h1.same hs3).cell 1 rfl
    have yL := (h1.same hs3).lt
    go_wp2
    go_ret2
    exact ⟨by rw [HW.out]; rfl, S1.trans hs3⟩

set_option maxRecDepth 10000 in
set_option maxHeartbeats 2000000 in
theorem sRound_4 (n d x : Int) (w : World) (hok : fracOk n d = true) (hx : Hid (x = if upB (n / d) (n - n / d * d) d 4 then n / d + 1 else n / d)) :
    Calls Tryz.prog 71 #[.agg #[.int .i64 n, .int .i64 d], .int .i64 4] w fun e w' => e = .returned (.tuple #[.int .i64 x, .bool true]) ∧ Same w w' := by
  have hi := fracOk_iff.1 hok
  have hr := floor_range n d (by omega)
  have HO := Lib.hid hok
  have HF := Lib.hid (fun w => sFloorFrac_any n d w hok)
  have HB : Hid (inB 4 1 4 = true) := rfl
  clear hok
  obtain ⟨low, hlow⟩ : ∃ low, n / d = low := ⟨_, rfl⟩
  rw [hlow] at hr hx HF
  have hpr := natAbs_mul_le (x := low) (y := d) (X := 1000000000001) (Y := 1000000) (by omega) (by omega)
  obtain ⟨p, hp⟩ : ∃ p, low * d = p := ⟨_, rfl⟩
  rw [hp] at hr hpr hx
  obtain ⟨rest, hrest⟩ : ∃ rest, n - p = rest := ⟨_, rfl⟩
  rw [hrest] at hr hx
  have hlo : low.natAbs ≤ 1000000000001 := by omega
  clear hlow
  by_cases c1 : d < 2 * rest
  · skip
    have HW := Lib.hid (show x = low + 1 by rw [hx.out]; simp [upB, *])
    clear hx
    go_enter Tryz.func71, Tryz.ntmps71
    go_wp2_with fail
    have h1 : BoxAt (w.alloc (.cells #[.int .i64 n, .int .i64 d] 101)) (w.heap.size) 101 [.int .i64 n, .int .i64 d] := by simpa using (BoxAt.new w 101 [.int .i64 n, .int .i64 d])
    have hs0 := (Same.alloc (Same.refl w) (.cells #[.int .i64 n, .int .i64 d] 101))
    generalize (w.alloc (.cells #[.int .i64 n, .int .i64 d] 101)) = w0 at *
    refine (sFracOk_any n d _).mono ?_
    rw [HO.out]
    rintro e w1 ⟨rfl, hs1⟩
    replace h1 := h1.same hs1
    have S1 := hs0.trans hs1
    have y0 := h1.cell 0 rfl
    have y1 := h1.cell 1 rfl
    have yL := h1.lt
    go_wp2_with fail
    refine (l01In_any _ _ _ _).mono ?_
    rw [HB.out]
    rintro e w2 ⟨rfl, rfl⟩
    go_wp2_with fail
    refine (HF.out _).mono ?_
    rintro e w3 ⟨rfl, hs3⟩
    clear y0 y1 yL
    have y0 := (h1.same hs3).cell 0 rfl
    have y1 := (h1.same hs3).cell 1 rfl
    have yL := (h1.same hs3).lt
    go_wp2
    go_ret2
    exact ⟨by rw [HW.out]; rfl, S1.trans hs3⟩
  · by_cases c2 : 2 * rest = d
    · have b2 : (2 * rest == d) = true := by simp [c2]
      have C2 := Lib.hid c2
      have HQ := Lib.hid (and_one low (by omega))
      cases c3 : decide (low % 2 ≠ 0)
      · have g3 : (bits .and .i64 low 1 == 1) = false := by rw [HQ.out, c3]
        have C3 := Lib.hid c3
        clear c3
        have HW := Lib.hid (show x = low by rw [hx.out]; have h3 := C3.out; simp at h3; simp [upB, *])
        clear hx
        go_enter Tryz.func71, Tryz.ntmps71
        go_wp2_with fail
        have h1 : BoxAt (w.alloc (.cells #[.int .i64 n, .int .i64 d] 101)) (w.heap.size) 101 [.int .i64 n, .int .i64 d] := by simpa using (BoxAt.new w 101 [.int .i64 n, .int .i64 d])
        have hs0 := (Same.alloc (Same.refl w) (.cells #[.int .i64 n, .int .i64 d] 101))
        generalize (w.alloc (.cells #[.int .i64 n, .int .i64 d] 101)) = w0 at *
        refine (sFracOk_any n d _).mono ?_
        rw [HO.out]
        rintro e w1 ⟨rfl, hs1⟩
        replace h1 := h1.same hs1
        have S1 := hs0.trans hs1
        have y0 := h1.cell 0 rfl
        have y1 := h1.cell 1 rfl
        have yL := h1.lt
        go_wp2_with fail
        refine (l01In_any _ _ _ _).mono ?_
        rw [HB.out]
        rintro e w2 ⟨rfl, rfl⟩
        go_wp2_with fail
        refine (HF.out _).mono ?_
        rintro e w3 ⟨rfl, hs3⟩
        clear y0 y1 yL
        have y0 := (h1.same hs3).cell 0 rfl
        have y1 := (h1.same hs3).cell 1 rfl
        have yL := (h1.same hs3).lt
        go_wp2
        go_ret2
        exact ⟨by rw [HW.out]; rfl, S1.trans hs3⟩
      · have g3 : (bits .and .i64 low 1 == 1) = true := by rw [HQ.out, c3]
        have C3 := Lib.hid c3
        clear c3
        have HW := Lib.hid (show x = low + 1 by rw [hx.out]; have h3 := C3.out; simp at h3; simp [upB, *])
        clear hx
        go_enter Tryz.func71, Tryz.ntmps71
        go_wp2_with fail
        have h1 : BoxAt (w.alloc (.cells #[.int .i64 n, .int .i64 d] 101)) (w.heap.size) 101 [.int .i64 n, .int .i64 d] := by simpa using (BoxAt.new w 101 [.int .i64 n, .int .i64 d])
        have hs0 := (Same.alloc (Same.refl w) (.cells #[.int .i64 n, .int .i64 d] 101))
        generalize (w.alloc (.cells #[.int .i64 n, .int .i64 d] 101)) = w0 at *
        refine (sFracOk_any n d _).mono ?_
        rw [HO.out]
        rintro e w1 ⟨rfl, hs1⟩
        replace h1 := h1.same hs1
        have S1 := hs0.trans hs1
        have y0 := h1.cell 0 rfl
        have y1 := h1.cell 1 rfl
        have yL := h1.lt
        go_wp2_with fail
        refine (l01In_any _ _ _ _).mono ?_
        rw [HB.out]
        rintro e w2 ⟨rfl, rfl⟩
        go_wp2_with fail
        refine (HF.out _).mono ?_
        rintro e w3 ⟨rfl, hs3⟩
        clear y0 y1 yL
        have y0 := (h1.same hs3).cell 0 rfl
        have y1 := (h1.same hs3).cell 1 rfl
        have yL := (h1.same hs3).lt
        go_wp2
        go_ret2
        exact ⟨by rw [HW.out]; rfl, S1.trans hs3⟩
    · have b2 : (2 * rest == d) = false := by simp [c2]
      have HW := Lib.hid (show x = low by rw [hx.out]; simp [upB, *])
      clear hx
      go_enter Tryz.func71, Tryz.ntmps71
      go_wp2_with fail
      have h1 : BoxAt (w.alloc (.cells #[.int .i64 n, .int .i64 d] 101)) (w.heap.size) 101 [.int .i64 n, .int .i64 d] := by simpa using (BoxAt.new w 101 [.int .i64 n, .int .i64 d])
      have hs0 := (Same.alloc (Same.refl w) (.cells #[.int .i64 n, .int .i64 d] 101))
      generalize (w.alloc (.cells #[.int .i64 n, .int .i64 d] 101)) = w0 at *
      refine (sFracOk_any n d _).mono ?_
      rw [HO.out]
      rintro e w1 ⟨rfl, hs1⟩
      replace h1 := h1.same hs1
      have S1 := hs0.trans hs1
      have y0 := h1.cell 0 rfl
      have y1 := h1.cell 1 rfl
      have yL := h1.lt
      go_wp2_with fail
      refine (l01In_any _ _ _ _).mono ?_
      rw [HB.out]
      rintro e w2 ⟨rfl, rfl⟩
      go_wp2_with fail
      refine (HF.out _).mono ?_
      rintro e w3 ⟨rfl, hs3⟩
      clear y0 y1 yL
      have y0 := (h1.same hs3).cell 0 rfl
      have y1 := (h1.same hs3).cell 1 rfl
      have yL := (h1.same hs3).lt
      go_wp2
      go_ret2
      exact ⟨by rw [HW.out]; rfl, S1.trans hs3⟩

theorem sRoundFrac_any (n d mode : Int) (w : World) :
    Calls Tryz.prog 71 #[.agg #[.int .i64 n, .int .i64 d], .int .i64 mode] w fun e w' => e = .returned (.tuple #[.int .i64 (roundFrac n d mode).1, .bool (roundFrac n d mode).2]) ∧ Same w w' := by
  cases h : fracOk n d && inB mode 1 4
  · rw [roundFrac_no h]
    exact sRoundFrac_no n d mode w h
  · rw [Bool.and_eq_true] at h
    have hm := inB_iff.1 h.2
    rw [roundFrac_yes h.1 h.2]
    rcases (show mode = 1 ∨ mode = 2 ∨ mode = 3 ∨ mode = 4 by omega) with rfl | rfl | rfl | rfl
    · exact sRound_1 n d _ w h.1 rfl
    · exact sRound_2 n d _ w h.1 rfl
    · exact sRound_3 n d _ w h.1 rfl
    · exact sRound_4 n d _ w h.1 rfl

set_option maxHeartbeats 1000000 in
theorem iRoundFrac_no (n d mode : Int) (w : World) (h : (fracOk n d && inB mode 1 4) = false) :
    Calls Tryz.prog 107 #[.agg #[.int .i64 n, .int .i64 d], .int .i64 mode] w fun e w' => e = .returned (.tuple #[.int .i64 0, .bool false]) ∧ Same w w' := by
  cases m1 : fracOk n d
  · go_enter Tryz.func107, Tryz.ntmps107
    go_wp2_with fail
    refine (iFracOk_any n d _).mono ?_
    rw [m1]
    rintro e w1 ⟨rfl, hs1⟩
    go_wp2
    go_ret2
    exact ⟨rfl, ((Same.refl w).alloc _).trans hs1⟩
  · have m2 : inB mode 1 4 = false := by rw [m1] at h; exact h
    go_enter Tryz.func107, Tryz.ntmps107
    go_wp2_with fail
    refine (iFracOk_any n d _).mono ?_
    rw [m1]
    rintro e w1 ⟨rfl, hs1⟩
    go_wp2_with fail
    refine (within_any _ _ _ _).mono ?_
    rw [m2]
    rintro e w1 ⟨rfl, rfl⟩
    go_wp2
    go_ret2
    exact ⟨rfl, ((Same.refl w).alloc _).trans hs1⟩

set_option maxRecDepth 10000 in
set_option maxHeartbeats 2000000 in
theorem iRound_1 (n d x : Int) (w : World) (hok : fracOk n d = true) (hx : Hid (x = if upB (n / d) (n - n / d * d) d 1 then n / d + 1 else n / d)) :
    Calls Tryz.prog 107 #[.agg #[.int .i64 n, .int .i64 d], .int .i64 1] w fun e w' => e = .returned (.tuple #[.int .i64 x, .bool true]) ∧ Same w w' := by
  have hi := fracOk_iff.1 hok
  have hr := floor_range n d (by omega)
  have HO := Lib.hid hok
  have HF := Lib.hid (fun w => floorDiv_any n d w (by omega) (by omega) (by omega))
  have HB : Hid (inB 1 1 4 = true) := rfl
  clear hok
  obtain ⟨low, hlow⟩ : ∃ low, n / d = low := ⟨_, rfl⟩
  rw [hlow] at hr hx HF
  have hpr := natAbs_mul_le (x := low) (y := d) (X := 1000000000001) (Y := 1000000) (by omega) (by omega)
  obtain ⟨p, hp⟩ : ∃ p, low * d = p := ⟨_, rfl⟩
  rw [hp] at hr hpr hx
  obtain ⟨rest, hrest⟩ : ∃ rest, n - p = rest := ⟨_, rfl⟩
  rw [hrest] at hr hx
  have hlo : low.natAbs ≤ 1000000000001 := by omega
  clear hlow
  have HW := Lib.hid (show x = low by rw [hx.out]; simp [upB, *])
  clear hx
  go_enter Tryz.func107, Tryz.ntmps107
  go_wp2_with fail
  have h1 : BoxAt (w.alloc (.cells #[.int .i64 n, .int .i64 d] 101)) (w.heap.size) 101 [.int .i64 n, .int .i64 d] := by simpa using (BoxAt.new w 101 [.int .i64 n, .int .i64 d])
  have hs0 := (Same.alloc (Same.refl w) (.cells #[.int .i64 n, .int .i64 d] 101))
  generalize (w.alloc (.cells #[.int .i64 n, .int .i64 d] 101)) = w0 at *
  refine (iFracOk_any n d _).mono ?_
  rw [HO.out]
  rintro e w1 ⟨rfl, hs1⟩
  replace h1 := h1.same hs1
  have S1 := hs0.trans hs1
  have y0 := h1.cell 0 rfl
  have y1 := h1.cell 1 rfl
  have yL := h1.lt
  go_wp2_with fail
  refine (within_any _ _ _ _).mono ?_
  rw [HB.out]
  rintro e w2 ⟨rfl, rfl⟩
  go_wp2_with fail
  refine (HF.out _).mono ?_
  rintro e w3 ⟨rfl, rfl⟩
  go_wp2
  go_ret2
  exact ⟨by rw [HW.out]; rfl, S1⟩

set_option maxRecDepth 10000 in
set_option maxHeartbeats 2000000 in
theorem iRound_2 (n d x : Int) (w : World) (hok : fracOk n d = true) (hx : Hid (x = if upB (n / d) (n - n / d * d) d 2 then n / d + 1 else n / d)) :
    Calls Tryz.prog 107 #[.agg #[.int .i64 n, .int .i64 d], .int .i64 2] w fun e w' => e = .returned (.tuple #[.int .i64 x, .bool true]) ∧ Same w w' := by
  have hi := fracOk_iff.1 hok
  have hr := floor_range n d (by omega)
  have HO := Lib.hid hok
  have HF := Lib.hid (fun w => floorDiv_any n d w (by omega) (by omega) (by omega))
  have HB : Hid (inB 2 1 4 = true) := rfl
  clear hok
  obtain ⟨low, hlow⟩ : ∃ low, n / d = low := ⟨_, rfl⟩
  rw [hlow] at hr hx HF
  have hpr := natAbs_mul_le (x := low) (y := d) (X := 1000000000001) (Y := 1000000) (by omega) (by omega)
  obtain ⟨p, hp⟩ : ∃ p, low * d = p := ⟨_, rfl⟩
  rw [hp] at hr hpr hx
  obtain ⟨rest, hrest⟩ : ∃ rest, n - p = rest := ⟨_, rfl⟩
  rw [hrest] at hr hx
  have hlo : low.natAbs ≤ 1000000000001 := by omega
  clear hlow
  by_cases c1 : 0 < rest
  · skip
    have HW := Lib.hid (show x = low + 1 by rw [hx.out]; simp [upB, *])
    clear hx
    go_enter Tryz.func107, Tryz.ntmps107
    go_wp2_with fail
    have h1 : BoxAt (w.alloc (.cells #[.int .i64 n, .int .i64 d] 101)) (w.heap.size) 101 [.int .i64 n, .int .i64 d] := by simpa using (BoxAt.new w 101 [.int .i64 n, .int .i64 d])
    have hs0 := (Same.alloc (Same.refl w) (.cells #[.int .i64 n, .int .i64 d] 101))
    generalize (w.alloc (.cells #[.int .i64 n, .int .i64 d] 101)) = w0 at *
    refine (iFracOk_any n d _).mono ?_
    rw [HO.out]
    rintro e w1 ⟨rfl, hs1⟩
    replace h1 := h1.same hs1
    have S1 := hs0.trans hs1
    have y0 := h1.cell 0 rfl
    have y1 := h1.cell 1 rfl
    have yL := h1.lt
    go_wp2_with fail
    refine (within_any _ _ _ _).mono ?_
    rw [HB.out]
    rintro e w2 ⟨rfl, rfl⟩
    go_wp2_with fail
    refine (HF.out _).mono ?_
    rintro e w3 ⟨rfl, rfl⟩
    go_wp2
    go_ret2
    exact ⟨by rw [HW.out]; rfl, S1⟩
  · skip
    have HW := Lib.hid (show x = low by rw [hx.out]; simp [upB, *])
    clear hx
    go_enter Tryz.func107, Tryz.ntmps107
    go_wp2_with fail
    have h1 : BoxAt (w.alloc (.cells #[.int .i64 n, .int .i64 d] 101)) (w.heap.size) 101 [.int .i64 n, .int .i64 d] := by simpa using (BoxAt.new w 101 [.int .i64 n, .int .i64 d])
    have hs0 := (Same.alloc (Same.refl w) (.cells #[.int .i64 n, .int .i64 d] 101))
    generalize (w.alloc (.cells #[.int .i64 n, .int .i64 d] 101)) = w0 at *
    refine (iFracOk_any n d _).mono ?_
    rw [HO.out]
    rintro e w1 ⟨rfl, hs1⟩
    replace h1 := h1.same hs1
    have S1 := hs0.trans hs1
    have y0 := h1.cell 0 rfl
    have y1 := h1.cell 1 rfl
    have yL := h1.lt
    go_wp2_with fail
    refine (within_any _ _ _ _).mono ?_
    rw [HB.out]
    rintro e w2 ⟨rfl, rfl⟩
    go_wp2_with fail
    refine (HF.out _).mono ?_
    rintro e w3 ⟨rfl, rfl⟩
    go_wp2
    go_ret2
    exact ⟨by rw [HW.out]; rfl, S1⟩

set_option maxRecDepth 10000 in
set_option maxHeartbeats 2000000 in
theorem iRound_3 (n d x : Int) (w : World) (hok : fracOk n d = true) (hx : Hid (x = if upB (n / d) (n - n / d * d) d 3 then n / d + 1 else n / d)) :
    Calls Tryz.prog 107 #[.agg #[.int .i64 n, .int .i64 d], .int .i64 3] w fun e w' => e = .returned (.tuple #[.int .i64 x, .bool true]) ∧ Same w w' := by
  have hi := fracOk_iff.1 hok
  have hr := floor_range n d (by omega)
  have HO := Lib.hid hok
  have HF := Lib.hid (fun w => floorDiv_any n d w (by omega) (by omega) (by omega))
  have HB : Hid (inB 3 1 4 = true) := rfl
  clear hok
  obtain ⟨low, hlow⟩ : ∃ low, n / d = low := ⟨_, rfl⟩
  rw [hlow] at hr hx HF
  have hpr := natAbs_mul_le (x := low) (y := d) (X := 1000000000001) (Y := 1000000) (by omega) (by omega)
  obtain ⟨p, hp⟩ : ∃ p, low * d = p := ⟨_, rfl⟩
  rw [hp] at hr hpr hx
  obtain ⟨rest, hrest⟩ : ∃ rest, n - p = rest := ⟨_, rfl⟩
  rw [hrest] at hr hx
  have hlo : low.natAbs ≤ 1000000000001 := by omega
  clear hlow
  by_cases c1 : d ≤ 2 * rest
  · skip
    have HW := Lib.hid (show x = low + 1 by rw [hx.out]; simp [upB, *])
    clear hx
    go_enter Tryz.func107, Tryz.ntmps107
    go_wp2_with fail
    have h1 : BoxAt (w.alloc (.cells #[.int .i64 n, .int .i64 d] 101)) (w.heap.size) 101 [.int .i64 n, .int .i64 d] := by simpa using (BoxAt.new w 101 [.int .i64 n, .int .i64 d])
    have hs0 := (Same.alloc (Same.refl w) (.cells #[.int .i64 n, .int .i64 d] 101))
    generalize (w.alloc (.cells #[.int .i64 n, .int .i64 d] 101)) = w0 at *
    refine (iFracOk_any n d _).mono ?_
    rw [HO.out]
    rintro e w1 ⟨rfl, hs1⟩
    replace h1 := h1.same hs1
    have S1 := hs0.trans hs1
    have y0 := h1.cell 0 rfl
    have y1 := h1.cell 1 rfl
    have yL := h1.lt
    go_wp2_with fail
    refine (within_any _ _ _ _).mono ?_
    rw [HB.out]
    rintro e w2 ⟨rfl, rfl⟩
    go_wp2_with fail
    refine (HF.out _).mono ?_
    rintro e w3 ⟨rfl, rfl⟩
    go_wp2
    go_ret2
    exact ⟨by rw [HW.out]; rfl, S1⟩
  · skip
    have HW := Lib.hid (show x = low by rw [hx.out]; simp [upB, *])
    clear hx
    go_enter Tryz.func107, Tryz.ntmps107
    go_wp2_with fail
    have h1 : BoxAt (w.alloc (.cells #[.int .i64 n, .int .i64 d] 101)) (w.heap.size) 101 [.int .i64 n, .int .i64 d] := by simpa using (BoxAt.new w 101 [.int .i64 n, .int .i64 d])
    have hs0 := (Same.alloc (Same.refl w) (.cells #[.int .i64 n, .int .i64 d] 101))
    generalize (w.alloc (.cells #[.int .i64 n, .int .i64 d] 101)) = w0 at *
    refine (iFracOk_any n d _).mono ?_
    rw [HO.out]
    rintro e w1 ⟨rfl, hs1⟩
    replace h1 := h1.same hs1
    have S1 := hs0.trans hs1
    have y0 := h1.cell 0 rfl
    have y1 := h1.cell 1 rfl
    have yL := h1.lt
    go_wp2_with fail
    refine (within_any _ _ _ _).mono ?_
    rw [HB.out]
    rintro e w2 ⟨rfl, rfl⟩
    go_wp2_with fail
    refine (HF.out _).mono ?_
    rintro e w3 ⟨rfl, rfl⟩
    go_wp2
    go_ret2
    exact ⟨by rw [HW.out]; rfl, S1⟩

set_option maxRecDepth 10000 in
set_option maxHeartbeats 2000000 in
theorem iRound_4 (n d x : Int) (w : World) (hok : fracOk n d = true) (hx : Hid (x = if upB (n / d) (n - n / d * d) d 4 then n / d + 1 else n / d)) :
    Calls Tryz.prog 107 #[.agg #[.int .i64 n, .int .i64 d], .int .i64 4] w fun e w' => e = .returned (.tuple #[.int .i64 x, .bool true]) ∧ Same w w' := by
  have hi := fracOk_iff.1 hok
  have hr := floor_range n d (by omega)
  have HO := Lib.hid hok
  have HF := Lib.hid (fun w => floorDiv_any n d w (by omega) (by omega) (by omega))
  have HB : Hid (inB 4 1 4 = true) := rfl
  clear hok
  obtain ⟨low, hlow⟩ : ∃ low, n / d = low := ⟨_, rfl⟩
  rw [hlow] at hr hx HF
  have hpr := natAbs_mul_le (x := low) (y := d) (X := 1000000000001) (Y := 1000000) (by omega) (by omega)
  obtain ⟨p, hp⟩ : ∃ p, low * d = p := ⟨_, rfl⟩
  rw [hp] at hr hpr hx
  obtain ⟨rest, hrest⟩ : ∃ rest, n - p = rest := ⟨_, rfl⟩
  rw [hrest] at hr hx
  have hlo : low.natAbs ≤ 1000000000001 := by omega
  clear hlow
  by_cases c1 : d < 2 * rest
  · skip
    have HW := Lib.hid (show x = low + 1 by rw [hx.out]; simp [upB, *])
    clear hx
    go_enter Tryz.func107, Tryz.ntmps107
    go_wp2_with fail
    have h1 : BoxAt (w.alloc (.cells #[.int .i64 n, .int .i64 d] 101)) (w.heap.size) 101 [.int .i64 n, .int .i64 d] := by simpa using (BoxAt.new w 101 [.int .i64 n, .int .i64 d])
    have hs0 := (Same.alloc (Same.refl w) (.cells #[.int .i64 n, .int .i64 d] 101))
    generalize (w.alloc (.cells #[.int .i64 n, .int .i64 d] 101)) = w0 at *
    refine (iFracOk_any n d _).mono ?_
    rw [HO.out]
    rintro e w1 ⟨rfl, hs1⟩
    replace h1 := h1.same hs1
    have S1 := hs0.trans hs1
    have y0 := h1.cell 0 rfl
    have y1 := h1.cell 1 rfl
    have yL := h1.lt
    go_wp2_with fail
    refine (within_any _ _ _ _).mono ?_
    rw [HB.out]
    rintro e w2 ⟨rfl, rfl⟩
    go_wp2_with fail
    refine (HF.out _).mono ?_
    rintro e w3 ⟨rfl, rfl⟩
    go_wp2
    go_ret2
    exact ⟨by rw [HW.out]; rfl, S1⟩
  · by_cases c2 : 2 * rest = d
    · have b2 : (2 * rest == d) = true := by simp [c2]
      have C2 := Lib.hid c2
      have HQ := Lib.hid (tmod_two low)
      cases c3 : decide (low % 2 ≠ 0)
      · have g3 : (low.tmod 2 != 0) = false := by rw [HQ.out, c3]
        have C3 := Lib.hid c3
        clear c3
        have HW := Lib.hid (show x = low by rw [hx.out]; have h3 := C3.out; simp at h3; simp [upB, *])
        clear hx
        go_enter Tryz.func107, Tryz.ntmps107
        go_wp2_with fail
        have h1 : BoxAt (w.alloc (.cells #[.int .i64 n, .int .i64 d] 101)) (w.heap.size) 101 [.int .i64 n, .int .i64 d] := by simpa using (BoxAt.new w 101 [.int .i64 n, .int .i64 d])
        have hs0 := (Same.alloc (Same.refl w) (.cells #[.int .i64 n, .int .i64 d] 101))
        generalize (w.alloc (.cells #[.int .i64 n, .int .i64 d] 101)) = w0 at *
        refine (iFracOk_any n d _).mono ?_
        rw [HO.out]
        rintro e w1 ⟨rfl, hs1⟩
        replace h1 := h1.same hs1
        have S1 := hs0.trans hs1
        have y0 := h1.cell 0 rfl
        have y1 := h1.cell 1 rfl
        have yL := h1.lt
        go_wp2_with fail
        refine (within_any _ _ _ _).mono ?_
        rw [HB.out]
        rintro e w2 ⟨rfl, rfl⟩
        go_wp2_with fail
        refine (HF.out _).mono ?_
        rintro e w3 ⟨rfl, rfl⟩
        go_wp2
        go_ret2
        exact ⟨by rw [HW.out]; rfl, S1⟩
      · have g3 : (low.tmod 2 != 0) = true := by rw [HQ.out, c3]
        have C3 := Lib.hid c3
        clear c3
        have HW := Lib.hid (show x = low + 1 by rw [hx.out]; have h3 := C3.out; simp at h3; simp [upB, *])
        clear hx
        go_enter Tryz.func107, Tryz.ntmps107
        go_wp2_with fail
        have h1 : BoxAt (w.alloc (.cells #[.int .i64 n, .int .i64 d] 101)) (w.heap.size) 101 [.int .i64 n, .int .i64 d] := by simpa using (BoxAt.new w 101 [.int .i64 n, .int .i64 d])
        have hs0 := (Same.alloc (Same.refl w) (.cells #[.int .i64 n, .int .i64 d] 101))
        generalize (w.alloc (.cells #[.int .i64 n, .int .i64 d] 101)) = w0 at *
        refine (iFracOk_any n d _).mono ?_
        rw [HO.out]
        rintro e w1 ⟨rfl, hs1⟩
        replace h1 := h1.same hs1
        have S1 := hs0.trans hs1
        have y0 := h1.cell 0 rfl
        have y1 := h1.cell 1 rfl
        have yL := h1.lt
        go_wp2_with fail
        refine (within_any _ _ _ _).mono ?_
        rw [HB.out]
        rintro e w2 ⟨rfl, rfl⟩
        go_wp2_with fail
        refine (HF.out _).mono ?_
        rintro e w3 ⟨rfl, rfl⟩
        go_wp2
        go_ret2
        exact ⟨by rw [HW.out]; rfl, S1⟩
    · have b2 : (2 * rest == d) = false := by simp [c2]
      have HW := Lib.hid (show x = low by rw [hx.out]; simp [upB, *])
      clear hx
      go_enter Tryz.func107, Tryz.ntmps107
      go_wp2_with fail
      have h1 : BoxAt (w.alloc (.cells #[.int .i64 n, .int .i64 d] 101)) (w.heap.size) 101 [.int .i64 n, .int .i64 d] := by simpa using (BoxAt.new w 101 [.int .i64 n, .int .i64 d])
      have hs0 := (Same.alloc (Same.refl w) (.cells #[.int .i64 n, .int .i64 d] 101))
      generalize (w.alloc (.cells #[.int .i64 n, .int .i64 d] 101)) = w0 at *
      refine (iFracOk_any n d _).mono ?_
      rw [HO.out]
      rintro e w1 ⟨rfl, hs1⟩
      replace h1 := h1.same hs1
      have S1 := hs0.trans hs1
      have y0 := h1.cell 0 rfl
      have y1 := h1.cell 1 rfl
      have yL := h1.lt
      go_wp2_with fail
      refine (within_any _ _ _ _).mono ?_
      rw [HB.out]
      rintro e w2 ⟨rfl, rfl⟩
      go_wp2_with fail
      refine (HF.out _).mono ?_
      rintro e w3 ⟨rfl, rfl⟩
      go_wp2
      go_ret2
      exact ⟨by rw [HW.out]; rfl, S1⟩

theorem iRoundFrac_any (n d mode : Int) (w : World) :
    Calls Tryz.prog 107 #[.agg #[.int .i64 n, .int .i64 d], .int .i64 mode] w fun e w' => e = .returned (.tuple #[.int .i64 (roundFrac n d mode).1, .bool (roundFrac n d mode).2]) ∧ Same w w' := by
  cases h : fracOk n d && inB mode 1 4
  · rw [roundFrac_no h]
    exact iRoundFrac_no n d mode w h
  · rw [Bool.and_eq_true] at h
    have hm := inB_iff.1 h.2
    rw [roundFrac_yes h.1 h.2]
    rcases (show mode = 1 ∨ mode = 2 ∨ mode = 3 ∨ mode = 4 by omega) with rfl | rfl | rfl | rfl
    · exact iRound_1 n d _ w h.1 rfl
    · exact iRound_2 n d _ w h.1 rfl
    · exact iRound_3 n d _ w h.1 rfl
    · exact iRound_4 n d _ w h.1 rfl
end Go.Proofs.YtjfmknhnplefnaaGreat
end

