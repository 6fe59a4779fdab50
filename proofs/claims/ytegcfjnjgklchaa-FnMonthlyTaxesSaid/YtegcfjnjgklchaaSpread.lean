/-
  The contracts of SpreadYear over twelve months.
-/
import Derived.Test.YtegcfjnjgklchaaBase
import Derived.Test.YtegcfjnjgklchaaIntS
import Derived.Deep.RegionHeld3
namespace Go.Proofs.Ytegcfjnjgklchaa
open Go.RowKit

/-- What the walk makes of one month's part. -/
def spreadW (total : Int) (j : Nat) : Int :=
  IntKind.i64.wrap (IntKind.i64.wrap ((IntKind.i64.wrap (((j : Int) + 1) * total)).tdiv 12) - IntKind.i64.wrap ((IntKind.i64.wrap (IntKind.i64.wrap (j : Int) * total)).tdiv 12))
theorem spreadW_eq {total : Int} {j : Nat} (h0 : 0 ≤ total) (h1 : total ≤ 1000000000) (hj : j < 12) : spreadW total j = spreadAt total j := by
  have a := spread_mul (j := j) h0 h1 (by omega)
  have b := spread_mul (j := j + 1) h0 h1 (by omega)
  rw [show ((j + 1 : Nat) : Int) = (j : Int) + 1 by omega] at b
  unfold spreadW spreadAt
  have e1 : IntKind.i64.wrap (((j : Int) + 1) * total) = ((j : Int) + 1) * total := by rw [IntKind.wrap_i64]; omega
  have e2 : IntKind.i64.wrap (j : Int) = j := by rw [IntKind.wrap_i64]; omega
  have e3 : IntKind.i64.wrap ((j : Int) * total) = (j : Int) * total := by rw [IntKind.wrap_i64]; omega
  rw [e1, e2, e3, Int.tdiv_eq_ediv_of_nonneg b.1, Int.tdiv_eq_ediv_of_nonneg a.1]
  have e4 : IntKind.i64.wrap (((j : Int) + 1) * total / 12) = ((j : Int) + 1) * total / 12 := by rw [IntKind.wrap_i64]; omega
  have e5 : IntKind.i64.wrap ((j : Int) * total / 12) = (j : Int) * total / 12 := by rw [IntKind.wrap_i64]; omega
  rw [e4, e5, IntKind.wrap_i64]
  have h : ((j : Int) + 1) * total = (j : Int) * total + total := by rw [Int.add_mul, Int.one_mul]
  omega

set_option maxHeartbeats 1000000 in
theorem sSpread_any (total : Int) (w : World) (h0 : 0 ≤ total) (h1 : total ≤ 1000000000) :
    Calls Try.prog 61 #[.int .i64 total, .int .i64 12] w fun e w' => RetI w (spreadTo total 12) e w' := by
  have hin : inB total 0 1000000000 = true := inB_iff.2 ⟨h0, h1⟩
  have HIN := Lib.hid hin
  clear hin
  go_enter Try.func61, Try.ntmps61
  go_wp2
  go_loopw [5, 6] (fun o i wr => ∃ j : Nat, j ≤ 12 ∧ i = .int .i64 ((j : Int) + 1) ∧ OwnI wr w.heap.size o (spreadTo total j) ∧ Same w wr) (fun _ i _ => (13 - intOf i).toNat)
  case atStart => exact ⟨0, by omega, rfl, OwnI.empty _ (Nat.le_refl _), (Same.refl w).alloc _⟩
  case round =>
    obtain ⟨j, hj, rfl, hown, hs⟩ := hrel
    by_cases hlt : j < 12
    · have hl : (spreadTo total j).length ≤ 1000000000 := by rw [spreadTo_length]; omega
      go_wp2_with fail
      refine (l01In_any _ _ _ _).mono ?_
      rintro e w' ⟨rfl, rfl⟩
      rw [HIN.out]
      go_wp2
      have hsz := hs.size
      go_region_held3 (fun _ => True) (trivial) ((refine stepI _ (by rfl) (.tmp 21) (.tmp 34) (by rfl) w.heap.size _ (spreadTo total j) (by rfl) ((OwnI.alloc hown _).same ((Same.refl _).drew)) wr.heap.size 1 (spreadW total j) (by rfl) (cells_new1 _ _ _) hl (by simp; omega) ?_; intro v' w1 ho1 hup))
      have hss := ((hs.alloc _).drew).upds hup (Nat.le_refl _)
      clear hup
      rw [spreadW_eq h0 h1 hlt, ← spreadTo_succ] at ho1
      go_wp2
      go_roundw
      case rel => exact ⟨j + 1, by omega, by go_num, ho1, hss⟩
      case measure => simp [intOf]; omega
    · obtain rfl : j = 12 := by omega
      go_wp2
      go_ret
      exact RetI.of hown hs

set_option maxHeartbeats 1000000 in
theorem iSpread_any (total : Int) (w : World) (h0 : 0 ≤ total) (h1 : total ≤ 1000000000) :
    Calls Try.prog 57 #[.int .i64 total, .int .i64 12] w fun e w' => RetI w (spreadTo total 12) e w' := by
  have hin : inB total 0 1000000000 = true := inB_iff.2 ⟨h0, h1⟩
  have hin2 : inB 12 1 12 = true := by decide
  go_enter Try.func57, Try.ntmps57
  go_wp2_with (go_at_call 49; refine (within_any _ _ _ _).mono ?_; rintro e w' ⟨rfl, rfl⟩)
  go_loopw [5, 6] (fun o i wr => ∃ j : Nat, j ≤ 12 ∧ i = .int .i64 ((j : Int) + 1) ∧ OwnI wr w.heap.size o (spreadTo total j) ∧ Same w wr) (fun _ i _ => (13 - intOf i).toNat)
  case atStart => exact ⟨0, by omega, rfl, OwnI.empty _ (Nat.le_refl _), (Same.refl w).alloc _⟩
  case round =>
    obtain ⟨j, hj, rfl, hown, hs⟩ := hrel
    by_cases hlt : j < 12
    · have hl : (spreadTo total j).length ≤ 1000000000 := by rw [spreadTo_length]; omega
      go_wp2
      have hsz := hs.size
      go_region_held3 (fun _ => True) (trivial) ((refine stepI _ (by rfl) (.tmp 21) (.tmp 34) (by rfl) w.heap.size _ (spreadTo total j) (by rfl) ((OwnI.alloc hown _).same ((Same.refl _).drew)) wr.heap.size 1 (spreadW total j) (by rfl) (cells_new1 _ _ _) hl (by simp; omega) ?_; intro v' w1 ho1 hup))
      have hss := ((hs.alloc _).drew).upds hup (Nat.le_refl _)
      clear hup
      rw [spreadW_eq h0 h1 hlt, ← spreadTo_succ] at ho1
      go_wp2
      go_roundw
      case rel => exact ⟨j + 1, by omega, by go_num, ho1, hss⟩
      case measure => simp [intOf]; omega
    · obtain rfl : j = 12 := by omega
      go_wp2
      go_ret
      exact RetI.of hown hs
end Go.Proofs.Ytegcfjnjgklchaa
