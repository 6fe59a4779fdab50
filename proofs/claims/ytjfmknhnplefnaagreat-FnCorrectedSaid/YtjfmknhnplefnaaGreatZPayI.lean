/-
  The final pay (the program's side).
-/
import Derived.Test.YtjfmknhnplefnaaGreatZValueI
import Derived.Test.YtjfmknhnplefnaaGreatZStoreOk
import Derived.Test.YtjfmknhnplefnaaGreatZBase
namespace Go.Proofs.YtjfmknhnplefnaaGreat
open Go.RowKit
set_option linter.unusedVariables false
set_option linter.unusedSimpArgs false

set_option maxRecDepth 10000 in
set_option maxHeartbeats 2000000 in
theorem iFinalPay_any (A : Option Addr) (c : Nat) (F : List TFact) (m known : Int) (w : World) (hz : F.length ≤ 1048576) (hA : AtFact w A F) :
    Calls Tryz.prog 59 #[.agg #[.slice A F.length c], .int .i64 m, .int .i64 known] w fun e w' => e = .returned (.tuple #[.int .i64 (finalPay F m known).1, .bool (finalPay F m known).2]) ∧ Same w w' := by
  have HR := Lib.hid (show finalPay F m known = if storeOk F && inB m 0 3600 then payTo F known m.toNat else (0, false) from rfl)
  have HE := Lib.hid (fun w (h : AtFact w A F) => iStoreOk_any A c F w hz h)
  have HM := Lib.hid (fun w => iEnd_any m w)
  cases h1 : storeOk F
  · rw [h1] at HE
    have HV := Lib.hid (show finalPay F m known = (0, false) by rw [HR.out, h1]; rfl)
    clear h1 HR
    go_enter Tryz.func59, Tryz.ntmps59
    go_wp2_with fail
    have h1 : BoxAt (w.alloc (.cells #[.slice A F.length c] 29)) (w.heap.size) 29 [.slice A F.length c] := by simpa using (BoxAt.new w 29 [.slice A F.length c])
    have hs0 := (Same.alloc (Same.refl w) (.cells #[.slice A F.length c] 29))
    generalize (w.alloc (.cells #[.slice A F.length c] 29)) = w0 at *
    refine (HE.out _ (hA.same hs0)).mono ?_
    rintro e w1 ⟨rfl, hs1⟩
    go_wp2
    go_ret2
    exact ⟨by rw [HV.out]; rfl, hs0.trans hs1⟩
  · cases h2 : inB m 0 3600
    · rw [h1] at HE
      rw [h2] at HM
      have HV := Lib.hid (show finalPay F m known = (0, false) by rw [HR.out, h1, h2]; rfl)
      clear h1 h2 HR
      go_enter Tryz.func59, Tryz.ntmps59
      go_wp2_with fail
      have h1 : BoxAt (w.alloc (.cells #[.slice A F.length c] 29)) (w.heap.size) 29 [.slice A F.length c] := by simpa using (BoxAt.new w 29 [.slice A F.length c])
      have hs0 := (Same.alloc (Same.refl w) (.cells #[.slice A F.length c] 29))
      generalize (w.alloc (.cells #[.slice A F.length c] 29)) = w0 at *
      refine (HE.out _ (hA.same hs0)).mono ?_
      rintro e w1 ⟨rfl, hs1⟩
      go_wp2_with fail
      refine (HM.out _).mono ?_
      rintro e w2 ⟨rfl, rfl⟩
      go_wp2
      go_ret2
      exact ⟨by rw [HV.out]; rfl, hs0.trans hs1⟩
    · have hm := inB_iff.1 h2
      obtain ⟨n, rfl⟩ : ∃ n : Nat, m = n := ⟨m.toNat, by omega⟩
      rw [h1] at HE
      rw [h2] at HM
      have HV := Lib.hid (show finalPay F n known = payTo F known n by rw [HR.out, h1, h2]; rfl)
      clear h1 h2 HR
      go_enter Tryz.func59, Tryz.ntmps59
      go_wp2_with fail
      have h1 : BoxAt (w.alloc (.cells #[.slice A F.length c] 29)) (w.heap.size) 29 [.slice A F.length c] := by simpa using (BoxAt.new w 29 [.slice A F.length c])
      have hs0 := (Same.alloc (Same.refl w) (.cells #[.slice A F.length c] 29))
      generalize (w.alloc (.cells #[.slice A F.length c] 29)) = w0 at *
      refine (HE.out _ (hA.same hs0)).mono ?_
      rintro e w1 ⟨rfl, hs1⟩
      go_wp2_with fail
      refine (HM.out _).mono ?_
      rintro e w2 ⟨rfl, rfl⟩
      go_wp2
      go_loopw [8] (fun i wr => ∃ k : Nat, k ≤ n ∧ i = .int .i64 ((k : Int) - 1) ∧ Hid (payTo F known k = finalPay F n known) ∧ Same w0 wr) (fun i _ => (intOf i + 1).toNat)
      case atStart => exact ⟨n, Nat.le_refl _, rfl, HV.out.symm, hs1⟩
      case round =>
        obtain ⟨k1, hk, rfl, HP, hs⟩ := hrel
        have b0 := (h1.same hs).cell 0 rfl
        cases k1 with
        | zero =>
          have HZ := Lib.hid (show finalPay F n known = (0, false) from HP.out.symm)
          rw [show ((0 : Nat) : Int) - 1 = -1 from rfl]
          go_wp2
          go_ret2
          exact ⟨by rw [HZ.out]; rfl, hs0.trans hs⟩
        | succ k =>
          rw [show ((k + 1 : Nat) : Int) - 1 = k by omega]
          have HS := Lib.hid (show payTo F known (k + 1) = if (valueAt F 1 k known).2 = true then valueAt F 1 k known else payTo F known k from rfl)
          go_wp2_with fail
          refine (iValueAt_any A c F 1 k known _ hz (hA.same (hs0.trans hs))).mono ?_
          rintro e w3 ⟨rfl, hs3⟩
          cases hv : (valueAt F 1 k known).2
          · have HT := Lib.hid (show payTo F known k = finalPay F n known by rw [← HP.out, HS.out, hv]; rfl)
            clear hv
            go_wp2
            go_roundw
            case rel => exact ⟨k, by omega, rfl, HT.out, hs.trans hs3⟩
            case measure => first | (simp [intOf]; done) | (simp [intOf]; omega)
          · have HT := Lib.hid (show finalPay F n known = ((valueAt F 1 k known).1, true) by rw [← HP.out, HS.out, hv, if_pos rfl, ← hv])
            clear hv
            go_wp2
            go_ret2
            exact ⟨by rw [HT.out]; rfl, hs0.trans (hs.trans hs3)⟩
end Go.Proofs.YtjfmknhnplefnaaGreat
