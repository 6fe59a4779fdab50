/-
  The value of a key at a month (the specification's side).
-/
import Derived.Test.YtjfmknhnplefnaaGreatZStoreOk
import Derived.Test.YtjfmknhnplefnaaGreatZPlain
namespace Go.Proofs.YtjfmknhnplefnaaGreat
open Go.RowKit
set_option linter.unusedVariables false
set_option linter.unusedSimpArgs false

set_option maxRecDepth 10000 in
set_option maxHeartbeats 4000000 in
theorem sValueAt_any (A : Option Addr) (c : Nat) (F : List TFact) (key m known : Int) (w : World) (hz : F.length ≤ 1048576) (hA : AtFact w A F) :
    Calls Tryz.prog 175 #[.agg #[.slice A F.length c], .int .i64 key, .int .i64 m, .int .i64 known] w fun e w' => e = .returned (.tuple #[.int .i64 (valueAt F key m known).1, .bool (valueAt F key m known).2]) ∧ Same w w' := by
  go_enter Tryz.func175, Tryz.ntmps175
  go_wp2
  have h1 : BoxAt (w.alloc (.cells #[.slice A F.length c] 29)) (w.heap.size) 29 [.slice A F.length c] := by simpa using (BoxAt.new w 29 [.slice A F.length c])
  have hs0 := (Same.alloc (Same.refl w) (.cells #[.slice A F.length c] 29))
  generalize (w.alloc (.cells #[.slice A F.length c] 29)) = w0 at *
  have hA0 := hA.same hs0
  have hl0 := h1.lt
  have b00 := h1.cell 0 rfl
  go_wp2
  go_loopw [10] (fun i wr => ∃ k : Nat, k ≤ F.length ∧ i = .int .i64 ((k : Int) - 1) ∧ Hid (valTo F key m known k = valueAt F key m known) ∧ Same w0 wr) (fun i _ => (intOf i + 1).toNat)
  case atStart => exact ⟨F.length, Nat.le_refl _, rfl, rfl, Same.refl _⟩
  case round =>
    obtain ⟨k1, hk, rfl, HV, hs⟩ := hrel
    have hb := h1.same hs
    have b0 := hb.cell 0 rfl
    have hbl0 := hb.lt
    cases k1 with
    | zero =>
      have HZ := Lib.hid (show valueAt F key m known = (0, false) from HV.out.symm)
      rw [show ((0 : Nat) : Int) - 1 = -1 from rfl]
      go_wp2
      go_ret2
      exact ⟨by rw [HZ.out]; rfl, hs0.trans hs⟩
    | succ k =>
      rw [show ((k + 1 : Nat) : Int) - 1 = k by omega]
      have hlt : k < F.length := by omega
      obtain ⟨b, off, x, rfl, hc, HX, hbl⟩ := (hA0.same hs).at_ hlt
      obtain ⟨f0, f1, f2, f3, f4⟩ := x
      have d0 := hc 0 _ rfl
      have d1 := hc 1 _ rfl
      have d2 := hc 2 _ rfl
      have d3 := hc 3 _ rfl
      have d4 := hc 4 _ rfl
      simp only [Nat.add_zero] at d0 d1 d2 d3 d4
      clear hc h1
      by_cases e1 : f0 = key
      · by_cases e2 : f1 ≤ m
        · by_cases e3 : m < f2
          · by_cases e4 : f3 ≤ known
            · skip
              have g0 : (f0 == key) = true := by first | (simp [e1]; done) | (simp; omega)
              have g1 : decide (f1 ≤ m) = true := by first | (simp [e2]; done) | (simp; omega)
              have g2 : decide (m < f2) = true := by first | (simp [e3]; done) | (simp; omega)
              have g3 : decide (f3 ≤ known) = true := by first | (simp [e4]; done) | (simp; omega)
              have hh : hit (f0, f1, f2, f3, f4) key m known = true := by simp only [hit, g0, g1, g2, g3]; rfl
              have HT := Lib.hid (show valueAt F key m known = (f4, true) by rw [← HV.out]; exact valTo_hit HX.out hh)
              clear hh
              clear e1
              go_wp2
              go_ret2
              exact ⟨by rw [HT.out]; rfl, hs0.trans (hs.alloc _)⟩
            · skip
              have g0 : (f0 == key) = true := by first | (simp [e1]; done) | (simp; omega)
              have g1 : decide (f1 ≤ m) = true := by first | (simp [e2]; done) | (simp; omega)
              have g2 : decide (m < f2) = true := by first | (simp [e3]; done) | (simp; omega)
              have g3 : decide (f3 ≤ known) = false := by first | (simp [e4]; done) | (simp; omega)
              have hh : hit (f0, f1, f2, f3, f4) key m known = false := by simp [hit, g0, g1, g2, g3]
              have HT := Lib.hid (show valTo F key m known k = valueAt F key m known by rw [← HV.out]; exact (valTo_miss HX.out hh).symm)
              clear hh
              clear e1
              go_wp2
              go_roundw
              case rel => exact ⟨k, by omega, by first | rfl | (congr 1; omega), HT.out, hs.alloc _⟩
              case measure => first | (simp [intOf]; done) | (simp [intOf]; omega)
          · skip
            have g0 : (f0 == key) = true := by first | (simp [e1]; done) | (simp; omega)
            have g1 : decide (f1 ≤ m) = true := by first | (simp [e2]; done) | (simp; omega)
            have g2 : decide (m < f2) = false := by first | (simp [e3]; done) | (simp; omega)
            have hh : hit (f0, f1, f2, f3, f4) key m known = false := by simp [hit, g0, g1, g2]
            have HT := Lib.hid (show valTo F key m known k = valueAt F key m known by rw [← HV.out]; exact (valTo_miss HX.out hh).symm)
            clear hh
            clear e1
            go_wp2
            go_roundw
            case rel => exact ⟨k, by omega, by first | rfl | (congr 1; omega), HT.out, hs.alloc _⟩
            case measure => first | (simp [intOf]; done) | (simp [intOf]; omega)
        · skip
          have g0 : (f0 == key) = true := by first | (simp [e1]; done) | (simp; omega)
          have g1 : decide (f1 ≤ m) = false := by first | (simp [e2]; done) | (simp; omega)
          have hh : hit (f0, f1, f2, f3, f4) key m known = false := by simp [hit, g0, g1]
          have HT := Lib.hid (show valTo F key m known k = valueAt F key m known by rw [← HV.out]; exact (valTo_miss HX.out hh).symm)
          clear hh
          clear e1
          go_wp2
          go_roundw
          case rel => exact ⟨k, by omega, by first | rfl | (congr 1; omega), HT.out, hs.alloc _⟩
          case measure => first | (simp [intOf]; done) | (simp [intOf]; omega)
      · skip
        have g0 : (f0 == key) = false := by first | (simp [e1]; done) | (simp; omega)
        have hh : hit (f0, f1, f2, f3, f4) key m known = false := by simp [hit, g0]
        have HT := Lib.hid (show valTo F key m known k = valueAt F key m known by rw [← HV.out]; exact (valTo_miss HX.out hh).symm)
        clear hh
        clear e1
        go_wp2
        go_roundw
        case rel => exact ⟨k, by omega, by first | rfl | (congr 1; omega), HT.out, hs.alloc _⟩
        case measure => first | (simp [intOf]; done) | (simp [intOf]; omega)
end Go.Proofs.YtjfmknhnplefnaaGreat
