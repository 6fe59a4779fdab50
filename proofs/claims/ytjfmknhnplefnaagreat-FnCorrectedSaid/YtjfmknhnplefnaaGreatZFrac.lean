/-
  The greatest common divisor; valid fractions.
-/
import Derived.Test.YtjfmknhnplefnaaGreatZRec
import Derived.Test.YtjfmknhnplefnaaGreatZBase
import Derived.Test.YtjfmknhnplefnaaGreatZPlain
import Derived.IntWalk
namespace Go.Proofs.YtjfmknhnplefnaaGreat
open Go.RowKit
set_option linter.unusedVariables false

theorem gcd_step (x y : Int) : Int.gcd y (x.tmod y) = Int.gcd x y := by
  show Nat.gcd y.natAbs (x.tmod y).natAbs = Nat.gcd x.natAbs y.natAbs
  rw [Int.natAbs_tmod, Nat.gcd_comm y.natAbs, ← Nat.gcd_rec, Nat.gcd_comm]
theorem tmod_small (x y : Int) (h : y ≠ 0) : (x.tmod y).natAbs < y.natAbs := by
  rw [Int.natAbs_tmod]
  exact Nat.mod_lt _ (Int.natAbs_pos.2 h)

set_option maxHeartbeats 400000 in
theorem gcd_any (a b : Int) (w : World) (ha : a.natAbs ≤ 4611686018427387904) (hb : b.natAbs ≤ 4611686018427387904) :
    Calls Tryz.prog 121 #[.int .i64 a, .int .i64 b] w fun e w' => e = .returned (.int .i64 (Int.gcd a b)) ∧ Drew w w' := by
  go_enter Tryz.func121, Tryz.ntmps121
  go_wp2
  go_loopw [0, 1] (fun p q wr => ∃ x y : Int, p = .int .i64 x ∧ q = .int .i64 y ∧ x.natAbs ≤ 4611686018427387904 ∧ y.natAbs ≤ 4611686018427387904 ∧ Hid (Int.gcd x y = Int.gcd a b) ∧ Drew w wr) (fun _ q _ => (intOf q).natAbs)
  case atStart => exact ⟨a, b, rfl, rfl, ha, hb, rfl, Drew.refl _⟩
  case round =>
    obtain ⟨x, y, rfl, rfl, hx, hy, HG, hd⟩ := hrel
    by_cases h0 : y = 0
    · subst h0
      have hg : (Int.gcd a b : Int) = max x (-x) := by
        rw [← HG.out]
        show ((Nat.gcd x.natAbs 0 : Nat) : Int) = _
        rw [Nat.gcd_zero_right]; omega
      have HH := Lib.hid hg
      clear hg
      go_wp2
      all_goals go_ret
      all_goals exact ⟨ret_int (by rw [HH.out]; omega), hd⟩
    · have hlt := tmod_small x y h0
      have HS := Lib.hid ((gcd_step x y).trans HG.out)
      have hb1 : (y != 0) = true := by simp [h0]
      have hb2 : (y == 0) = false := by simp [h0]
      have hm0 : (x.tmod y).natAbs ≤ 4611686018427387904 := by omega
      obtain ⟨r, hr⟩ : ∃ r, x.tmod y = r := ⟨_, rfl⟩
      rw [hr] at hlt hm0 HS
      go_wp2
      go_quiet (fail)
      go_wp2
      go_roundw
      case rel => exact ⟨y, r, rfl, rfl, hy, hm0, HS, hd.drewN _⟩
      case measure => simp [intOf]; omega

set_option maxHeartbeats 400000 in
theorem l02Gcd_any (a b : Int) (w : World) (ha : 0 ≤ a ∧ a ≤ 4611686018427387904) (hb : 0 ≤ b ∧ b ≤ 4611686018427387904) :
    Calls Tryz.prog 171 #[.int .i64 a, .int .i64 b] w fun e w' => e = .returned (.int .i64 (Int.gcd a b)) ∧ w = w' := by
  go_enter Tryz.func171, Tryz.ntmps171
  go_wp2
  go_loop [0, 1] (fun p q => ∃ x y : Int, p = .int .i64 x ∧ q = .int .i64 y ∧ 0 ≤ x ∧ x ≤ 4611686018427387904 ∧ 0 ≤ y ∧ y ≤ 4611686018427387904 ∧ Hid (Int.gcd x y = Int.gcd a b)) (fun _ q => (intOf q).natAbs)
  case atStart => exact ⟨a, b, rfl, rfl, ha.1, ha.2, hb.1, hb.2, rfl⟩
  case round =>
    obtain ⟨x, y, rfl, rfl, hx0, hx1, hy0, hy1, HG⟩ := hrel
    by_cases h0 : y = 0
    · subst h0
      have hg : (Int.gcd a b : Int) = x := by
        rw [← HG.out]
        show ((Nat.gcd x.natAbs 0 : Nat) : Int) = _
        rw [Nat.gcd_zero_right]; omega
      have HH := Lib.hid hg
      clear hg
      go_wp2
      go_ret
      exact ⟨ret_int (by rw [HH.out]), rfl⟩
    · have hlt := tmod_small x y h0
      have hst := gcd_step x y
      have hp : 0 < y := by omega
      have hm := Int.emod_nonneg x h0
      have hl := Int.emod_lt_of_pos x hp
      rw [Int.tmod_eq_emod_of_nonneg hx0] at hst hlt
      have HS := Lib.hid (hst.trans HG.out)
      have hb1 : (y != 0) = true := by simp [h0]
      clear hst
      go_wp2
      go_round
      case rel => exact ⟨y, x % y, rfl, rfl, by omega, by omega, by omega, by omega, HS⟩
      case measure => simp [intOf]; omega

theorem l02Abs_any (x : Int) (w : World) (hx : x.natAbs ≤ 4611686018427387904) : Calls Tryz.prog 172 #[.int .i64 x] w fun e w' => e = .returned (.int .i64 x.natAbs) ∧ w = w' := by
  go_enter Tryz.func172, Tryz.ntmps172
  go_wp2
  all_goals go_ret
  all_goals exact ⟨ret_int (by omega), rfl⟩

theorem gcd_abs (n d : Int) : Int.gcd (n.natAbs : Int) d = Int.gcd n d := by
  show Nat.gcd (n.natAbs : Int).natAbs d.natAbs = Nat.gcd n.natAbs d.natAbs
  rw [Int.natAbs_natCast]

set_option maxHeartbeats 400000 in
theorem iFracOk_any (n d : Int) (w : World) : Calls Tryz.prog 68 #[.agg #[.int .i64 n, .int .i64 d]] w fun e w' => e = .returned (.bool (fracOk n d)) ∧ Same w w' := by
  cases m1 : inB d 1 1000000
  · go_enter Tryz.func68, Tryz.ntmps68
    go_wp2_with fail
    refine (within_any _ _ _ _).mono ?_
    rintro e w1 ⟨rfl, rfl⟩
    rw [m1]
    go_wp2
    go_ret
    exact ⟨ret_bool (by simp [fracOk, m1]), (Same.refl w).alloc _⟩
  · cases m2 : inB n (-1000000000000) 1000000000000
    · go_enter Tryz.func68, Tryz.ntmps68
      go_wp2_with fail
      refine (within_any _ _ _ _).mono ?_
      rintro e w1 ⟨rfl, rfl⟩
      rw [m1]
      go_wp2_with fail
      refine (within_any _ _ _ _).mono ?_
      rintro e w2 ⟨rfl, rfl⟩
      rw [m2]
      go_wp2
      go_ret
      exact ⟨ret_bool (by simp [fracOk, m1, m2]), (Same.refl w).alloc _⟩
    · have h1 := inB_iff.1 m1
      have h2 := inB_iff.1 m2
      obtain ⟨g, hg⟩ : ∃ g : Nat, g = Int.gcd n d := ⟨_, rfl⟩
      have HR := Lib.hid (show fracOk n d = decide (g = 1) by simp [fracOk, m1, m2, hg])
      have HG := Lib.hid hg
      clear hg
      go_enter Tryz.func68, Tryz.ntmps68
      go_wp2_with fail
      refine (within_any _ _ _ _).mono ?_
      rintro e w1 ⟨rfl, rfl⟩
      rw [m1]
      go_wp2_with fail
      refine (within_any _ _ _ _).mono ?_
      rintro e w2 ⟨rfl, rfl⟩
      rw [m2]
      go_wp2_with fail
      refine (gcd_any n d _ (by omega) (by omega)).mono ?_
      rw [← HG.out]
      rintro e w3 ⟨rfl, hd⟩
      go_wp2
      all_goals go_ret
      all_goals exact ⟨ret_bool (by rw [HR.out]; first | rfl | exact decide_eq_decide.2 (by omega) | (simp; omega)), ((Same.refl w).alloc _).drewed hd⟩

theorem in_val (n lo hi : Int) {b : Bool} (h : inB n lo hi = b) : Hid (∀ w : World, Calls Tryz.prog 115 #[.int .i64 n, .int .i64 lo, .int .i64 hi] w fun e w' => e = .returned (.bool b) ∧ w = w') := fun w => by
  subst h
  exact l01In_any n lo hi w
set_option maxRecDepth 10000 in
set_option maxHeartbeats 1000000 in
theorem sFracOk_any (n d : Int) (w : World) : Calls Tryz.prog 126 #[.agg #[.int .i64 n, .int .i64 d]] w fun e w' => e = .returned (.bool (fracOk n d)) ∧ Same w w' := by
  cases m1 : inB d 1 1000000
  · have q1 := in_val d 1 1000000 m1
    have HR := Lib.hid (show fracOk n d = false by simp [fracOk, m1])
    clear m1
    go_enter Tryz.func126, Tryz.ntmps126
    go_wp2
    go_quiet ((go_at_call 115; exact quiet_left (q1.out _)))
    go_wp2
    go_ret
    exact ⟨ret_bool HR.out.symm, ((Same.refl w).alloc _).drewN _⟩
  · cases m2 : inB n (-1000000000000) 1000000000000
    · have q1 := in_val d 1 1000000 m1
      have q2 := in_val n (-1000000000000) 1000000000000 m2
      have HR := Lib.hid (show fracOk n d = false by simp [fracOk, m1, m2])
      clear m1 m2
      go_enter Tryz.func126, Tryz.ntmps126
      go_wp2
      go_quiet ((go_at_call 115; first | with_reducible exact quiet_left (q1.out _) | with_reducible exact quiet_left (q2.out _)))
      go_wp2
      go_ret
      exact ⟨ret_bool HR.out.symm, ((Same.refl w).alloc _).drewN _⟩
    · have q1 := in_val d 1 1000000 m1
      have q2 := in_val n (-1000000000000) 1000000000000 m2
      have h1 := inB_iff.1 m1
      have h2 := inB_iff.1 m2
      have HR := Lib.hid (show fracOk n d = decide (((Int.gcd (n.natAbs : Int) d : Nat) : Int) = 1) by rw [gcd_abs]; simp only [fracOk, m1, m2, Bool.true_and]; exact decide_eq_decide.2 (by omega))
      have q3 := Lib.hid (fun w : World => l02Abs_any n w (by omega))
      have q4 := Lib.hid (fun w : World => l02Gcd_any (n.natAbs : Int) d w (by omega) (by omega))
      clear m1 m2 h1 h2
      obtain ⟨g, hg⟩ : ∃ g : Nat, g = Int.gcd (n.natAbs : Int) d := ⟨_, rfl⟩
      obtain ⟨y, hy⟩ : ∃ y : Int, y = (n.natAbs : Int) := ⟨_, rfl⟩
      rw [← hg] at HR q4
      rw [← hy] at q3 q4
      clear hg hy
      by_cases h1 : (g : Int) = 1
      · have hb : ((g : Int) == 1) = true := by simp [h1]
        have HR2 := Lib.hid (show fracOk n d = true by rw [HR.out]; simp [h1])
        clear h1 HR
        go_enter Tryz.func126, Tryz.ntmps126
        go_wp2
        go_quiet ((first | (go_at_call 115; first | with_reducible exact quiet_left (q1.out _) | with_reducible exact quiet_left (q2.out _)) | (go_at_call 172; exact quiet_left (q3.out _)) | (go_at_call 171; exact quiet_left (q4.out _))))
        go_wp2
        go_ret
        exact ⟨ret_bool HR2.out.symm, ((Same.refl w).alloc _).drewN _⟩
      · have hb : ((g : Int) == 1) = false := by simp [h1]
        have HR2 := Lib.hid (show fracOk n d = false by rw [HR.out]; simp [h1])
        clear h1 HR
        go_enter Tryz.func126, Tryz.ntmps126
        go_wp2
        go_quiet ((first | (go_at_call 115; first | with_reducible exact quiet_left (q1.out _) | with_reducible exact quiet_left (q2.out _)) | (go_at_call 172; exact quiet_left (q3.out _)) | (go_at_call 171; exact quiet_left (q4.out _))))
        go_wp2
        go_ret
        exact ⟨ret_bool HR2.out.symm, ((Same.refl w).alloc _).drewN _⟩
end Go.Proofs.YtjfmknhnplefnaaGreat
