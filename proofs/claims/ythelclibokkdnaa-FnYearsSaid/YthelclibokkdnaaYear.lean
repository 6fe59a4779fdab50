/-
  The result of a year.
-/
import Derived.Test.YthelclibokkdnaaBalance
import Derived.Deep.RegionHeld3
import Derived.IntWalk
namespace Go.Proofs.Ythelclibokkdnaa
open Go.RowKit

def yearRes (L : List TPosting) (z y a : Int) : Int :=
  if (ledgerOk L && inB z 0 3599 && inB y 1900 2199) = true then balTo L a ((y - 1900) * 12 + 11) L.length - balTo L a ((y - 1900) * 12 - 1) L.length else 0
theorem yearRes_no {L : List TPosting} {z y a : Int} (h : (ledgerOk L && inB z 0 3599 && inB y 1900 2199) = false) : yearRes L z y a = 0 := by simp only [yearRes, h]; rfl
theorem yearRes_yes {L : List TPosting} {z y a : Int} (h1 : (ledgerOk L && inB z 0 3599) = true) (h2 : inB y 1900 2199 = true) : yearRes L z y a = balTo L a ((y - 1900) * 12 + 11) L.length - balTo L a ((y - 1900) * 12 - 1) L.length := by simp only [yearRes, h1, h2]; rfl

theorem sMonthOf_any (y m : Int) (w : World) (h0 : 1900 ≤ y) (h1 : y ≤ 2199) (h2 : 1 ≤ m) (h3 : m ≤ 12) : Calls Try.prog 79 #[.int .i64 y, .int .i64 m] w fun e w' => e = .returned (.int .i64 ((y - 1900) * 12 + (m - 1))) ∧ w = w' := by
  go_enter Try.func79, Try.ntmps79
  go_wp2
  all_goals go_ret
  all_goals exact ⟨ret_int (by omega), rfl⟩

set_option maxHeartbeats 2000000 in
theorem sYear_any (A : Option Addr) (c : Nat) (L : List TPosting) (z y a : Int) (w : World) (hz : L.length ≤ 9223372036854775807) (hA : AtPosting w A L) :
    Calls Try.prog 51 #[.agg #[.slice A L.length c, .int .i64 z], .int .i64 y, .int .i64 a] w fun e w' => e = .returned (.int .i64 (yearRes L z y a)) ∧ Same w w' := by
  cases m1 : (ledgerOk L && inB z 0 3599)
  · have HY := Lib.hid (yearRes_no (a := a) (L := L) (z := z) (y := y) (by rw [m1]; rfl))
    go_enter Try.func51, Try.ntmps51
    go_wp2_with fail
    refine (sBooksOk_any A c L z _ hz (hA.same ((Same.refl w).alloc _))).mono ?_
    rintro e w1 ⟨rfl, hs1⟩
    rw [m1]
    go_wp2
    go_ret
    exact ⟨ret_int HY.out.symm, ((Same.refl w).alloc _).trans hs1⟩
  · cases m2 : inB y 1900 2199
    · have HY := Lib.hid (yearRes_no (a := a) (L := L) (z := z) (y := y) (by rw [m1, m2]; rfl))
      go_enter Try.func51, Try.ntmps51
      go_wp2_with fail
      refine (sBooksOk_any A c L z _ hz (hA.same ((Same.refl w).alloc _))).mono ?_
      rintro e w1 ⟨rfl, hs1⟩
      rw [m1]
      go_wp2_with fail
      refine (l01In_any _ _ _ _).mono ?_
      rintro e w2 ⟨rfl, rfl⟩
      rw [m2]
      go_wp2
      go_ret
      exact ⟨ret_int HY.out.symm, ((Same.refl w).alloc _).trans hs1⟩
    · have HY := Lib.hid (yearRes_yes (a := a) m1 m2)
      have hok : ledgerOk L = true := by rw [Bool.and_eq_true] at m1; exact m1.1
      obtain ⟨hy0, hy1⟩ := inB_iff.1 m2
      have hlen := ledgerOk_len hok
      have hr := fun m => balTo_range (a := a) (m := m) hok L.length (Nat.le_refl _)
      have hp := hr ((y - 1900) * 12 + 11)
      have hq := hr ((y - 1900) * 12 - 1)
      clear hr
      have k1 : IntKind.i64.wrap ((y - 1900) * 12 + 11) = (y - 1900) * 12 + 11 := IntWalk.i64_in _ (by omega)
      have k2 : IntKind.i64.wrap ((y - 1900) * 12 - 1) = (y - 1900) * 12 - 1 := IntWalk.i64_in _ (by omega)
      have k3 : IntKind.i64.wrap ((y - 1900) * 12 + 11 - 12) = (y - 1900) * 12 + 11 - 12 := IntWalk.i64_in _ (by omega)
      go_enter Try.func51, Try.ntmps51
      go_wp2_with fail
      have hb := BoxAt.new w 47 [.slice A L.length c, .int .i64 z]
      refine (sBooksOk_any A c L z _ hz (hA.same ((Same.refl w).alloc _))).mono ?_
      rintro e w1 ⟨rfl, hs1⟩
      have S1 := ((Same.refl w).alloc (.cells #[.slice A L.length c, .int .i64 z] 47)).trans hs1
      replace hb := hb.same hs1
      clear hs1
      have b0 := hb.cell 0 rfl
      have b1 := hb.cell 1 rfl
      rw [m1]
      go_wp2_with fail
      refine (l01In_any _ _ _ _).mono ?_
      rintro e w2 ⟨rfl, rfl⟩
      rw [m2]
      go_wp2_with fail
      refine (sMonthOf_any y 1 _ hy0 hy1 (by omega) (by omega)).mono ?_
      rintro e w3 ⟨rfl, rfl⟩
      go_wp2_with fail
      go_region_held3 (fun w' => Same w1 w' ∧ w'.cell? ⟨w.heap.size, 0, none⟩ = some (.slice A L.length c))
        (first | exact ⟨(Same.refl _).drew, b0⟩ | (go_split_ands; exact ⟨Same.trans (by assumption) hs8, (hb.same (Same.trans (by assumption) hs8)).cell 0 rfl⟩))
        ((go_split_ands; go_at_call 68; refine (sBal_any A c L a _ _ hok (hA.same (S1.trans (by assumption)))).mono ?_; rintro e w8 ⟨rfl, hs8⟩))
      all_goals go_wp2
      all_goals go_ret
      all_goals exact ⟨ret_int (by rw [HY.out]; exact IntWalk.i64_in _ (by omega)), S1.trans (by go_split_ands; assumption)⟩

set_option maxHeartbeats 2000000 in
theorem iYear_any (A : Option Addr) (c : Nat) (L : List TPosting) (z y a : Int) (w : World) (hz : L.length ≤ 9223372036854775807) (hA : AtPosting w A L) :
    Calls Try.prog 37 #[.agg #[.slice A L.length c, .int .i64 z], .int .i64 y, .int .i64 a] w fun e w' => e = .returned (.int .i64 (yearRes L z y a)) ∧ Same w w' := by
  cases m1 : (ledgerOk L && inB z 0 3599)
  · have HY := Lib.hid (yearRes_no (a := a) (L := L) (z := z) (y := y) (by rw [m1]; rfl))
    go_enter Try.func37, Try.ntmps37
    go_wp2_with fail
    refine (iBooksOk_any A c L z _ hz (hA.same ((Same.refl w).alloc _))).mono ?_
    rintro e w1 ⟨rfl, hs1⟩
    rw [m1]
    go_wp2
    go_ret
    exact ⟨ret_int HY.out.symm, ((Same.refl w).alloc _).trans hs1⟩
  · cases m2 : inB y 1900 2199
    · have HY := Lib.hid (yearRes_no (a := a) (L := L) (z := z) (y := y) (by rw [m1, m2]; rfl))
      go_enter Try.func37, Try.ntmps37
      go_wp2_with fail
      refine (iBooksOk_any A c L z _ hz (hA.same ((Same.refl w).alloc _))).mono ?_
      rintro e w1 ⟨rfl, hs1⟩
      rw [m1]
      go_wp2_with fail
      refine (within_any _ _ _ _).mono ?_
      rintro e w2 ⟨rfl, rfl⟩
      rw [m2]
      go_wp2
      go_ret
      exact ⟨ret_int HY.out.symm, ((Same.refl w).alloc _).trans hs1⟩
    · have HY := Lib.hid (yearRes_yes (a := a) m1 m2)
      have hok : ledgerOk L = true := by rw [Bool.and_eq_true] at m1; exact m1.1
      obtain ⟨hy0, hy1⟩ := inB_iff.1 m2
      have hlen := ledgerOk_len hok
      have hr := fun m => balTo_range (a := a) (m := m) hok L.length (Nat.le_refl _)
      have hp := hr ((y - 1900) * 12 + 11)
      have hq := hr ((y - 1900) * 12 - 1)
      clear hr
      have k1 : IntKind.i64.wrap ((y - 1900) * 12 + 11) = (y - 1900) * 12 + 11 := IntWalk.i64_in _ (by omega)
      have k2 : IntKind.i64.wrap ((y - 1900) * 12 - 1) = (y - 1900) * 12 - 1 := IntWalk.i64_in _ (by omega)
      have k3 : IntKind.i64.wrap ((y - 1900) * 12 + 11 - 12) = (y - 1900) * 12 + 11 - 12 := IntWalk.i64_in _ (by omega)
      go_enter Try.func37, Try.ntmps37
      go_wp2_with fail
      have hb := BoxAt.new w 47 [.slice A L.length c, .int .i64 z]
      refine (iBooksOk_any A c L z _ hz (hA.same ((Same.refl w).alloc _))).mono ?_
      rintro e w1 ⟨rfl, hs1⟩
      have S1 := ((Same.refl w).alloc (.cells #[.slice A L.length c, .int .i64 z] 47)).trans hs1
      replace hb := hb.same hs1
      clear hs1
      have b0 := hb.cell 0 rfl
      have b1 := hb.cell 1 rfl
      rw [m1]
      go_wp2_with fail
      refine (within_any _ _ _ _).mono ?_
      rintro e w2 ⟨rfl, rfl⟩
      rw [m2]
      go_wp2_with fail

      go_region_held3 (fun w' => Same w1 w' ∧ w'.cell? ⟨w.heap.size, 0, none⟩ = some (.slice A L.length c))
        (first | exact ⟨(Same.refl _).drew, b0⟩ | (go_split_ands; exact ⟨Same.trans (by assumption) hs8, (hb.same (Same.trans (by assumption) hs8)).cell 0 rfl⟩))
        ((go_split_ands; go_at_call 33; refine (iBal_any A c L a _ _ hz (hA.same (S1.trans (by assumption)))).mono ?_; rintro e w8 ⟨rfl, hs8⟩))
      all_goals go_wp2
      all_goals go_ret
      all_goals exact ⟨ret_int (by rw [HY.out, balance, balance, if_pos hok, if_pos hok, show (y - 1900) * 12 + 11 - 12 = (y - 1900) * 12 - 1 by omega]; exact IntWalk.i64_in _ (by omega)), S1.trans (by go_split_ands; assumption)⟩
end Go.Proofs.Ythelclibokkdnaa
