/-
  FnYears: for every list of bytes the results of all years add up to the balance. No condition.
-/
import Derived.Test.YthelclibokkdnaaDrawLed
import Derived.Test.YthelclibokkdnaaYear
namespace Go.Proofs.Ythelclibokkdnaa
open Go.RowKit
set_option linter.unusedVariables false

theorem postAt_before {a m : Int} {p : TPosting} (h : SmallP p) (hm : m < 0) : postAt a m p = 0 := by
  rw [postAt, if_pos (by have := h.1; omega)]
theorem balTo_before {L : List TPosting} {a m : Int} (h : Small L) (hm : m < 0) : ∀ k, k ≤ L.length → balTo L a m k = 0
  | 0, _ => rfl
  | k + 1, hk => by
    obtain ⟨p, hp⟩ : ∃ p, L[k]? = some p := ⟨_, List.getElem?_eq_getElem (by omega)⟩
    rw [balTo_succ hp, balTo_before h hm k (by omega), postAt_before (h p (List.mem_of_getElem? hp)) hm]
    rfl
/-- The results of the first k years. -/
def yearsTo (L : List TPosting) (a : Int) (k : Nat) : Int := balTo L a (12 * (k : Int) - 1) L.length
theorem yearsTo_zero {L : List TPosting} {a : Int} (h : Small L) : yearsTo L a 0 = 0 := balTo_before h (by omega) _ (Nat.le_refl _)
theorem yearsTo_succ {L : List TPosting} {z a : Int} {k : Nat} (h : Small L) (hl : L.length ≤ 11) (hz0 : 0 ≤ z) (hz1 : z < 50) (hk : k < 6) : yearsTo L a k + yearRes L z (1900 + k) a = yearsTo L a (k + 1) := by
  rw [yearRes_yes (by rw [h.ok (by omega)]; simp [inB]; omega) (by simp [inB]; omega), yearsTo, yearsTo, show (1900 + (k : Int) - 1900) * 12 - 1 = 12 * (k : Int) - 1 by omega, show (1900 + (k : Int) - 1900) * 12 + 11 = 12 * ((k + 1 : Nat) : Int) - 1 by omega]
  omega
theorem yearsTo_six {L : List TPosting} {a : Int} (h : Small L) (hl : L.length ≤ 11) : yearsTo L a 6 = balance L a 71 := by
  rw [balance, if_pos (h.ok (by omega))]; rfl
theorem yearsTo_range {L : List TPosting} {a : Int} {k : Nat} (h : Small L) (hl : L.length ≤ 11) : -11000000000 ≤ yearsTo L a k ∧ yearsTo L a k ≤ 11000000000 := by
  have := balTo_range (a := a) (m := 12 * (k : Int) - 1) (h.ok (by omega)) L.length (Nat.le_refl _)
  unfold yearsTo
  omega

set_option maxRecDepth 100000 in
set_option maxHeartbeats 2000000 in
theorem lawYears (A : Option Addr) (n c : Nat) (w : World) (hn : n ≤ 9223372036854775807) (hA : BytesAt w w.heap.size A n) :
    Calls Try.prog 8 #[.slice A n c] w fun e w' => e = .returned (.bool true) ∧ Same w w' := by
  by_cases hbig : n ≤ 1048576
  · go_enter Try.func8, Try.ntmps8
    go_wp2_with fail
    refine (big_no A n c _ hbig).mono ?_
    rintro e w0 ⟨rfl, rfl⟩
    go_wp2_with fail
    refine (drawBooks_any A n c _ hbig hA).mono ?_
    rintro e w1 ⟨L, A1, c1, z, rfl, hl, sm, z0, z1, ho1, hs1⟩
    have hb := BoxAt.new w1 47 [.slice A1 L.length c1, .int .i64 z]
    have al := (Same.refl w1).alloc (.cells #[.slice A1 L.length c1, .int .i64 z] 47)
    replace ho1 := ho1.same al
    have S1 := hs1.trans al
    clear hs1
    go_wp2_with fail
    generalize w1.alloc (.cells #[.slice A1 L.length c1, .int .i64 z] 47) = w2 at *
    refine (drawPlaces_any A n c _ hbig (hA.keep' S1)).mono ?_
    rintro e w3 ⟨ps, D, g0, rfl, hpl, ho3, hs3⟩
    obtain ⟨a, ha, ha0, ha1⟩ := hpl.get (k := 0) (by omega)
    obtain ⟨h, rfl, _⟩ := ho3.at_ ha
    have ca := ho3.cell ha
    have hl12 : (12 : Int) ≤ (ps.length : Int) := by have := hpl.1; omega
    replace hb := hb.same hs3
    have S3 := S1.trans hs3
    have hR := (OwnR.recs cPosting_len ho1).same hs3
    obtain ⟨x, hx⟩ : ∃ x, x = 1 + a % 9 := ⟨_, rfl⟩
    have HX := Lib.hid hx
    have HZ := Lib.hid (yearsTo_zero (a := x) sm)
    have HS := Lib.hid (fun (k : Nat) (hk : k < 6) => yearsTo_succ (z := z) (a := x) sm hl z0 z1 hk)
    have H6 := Lib.hid (yearsTo_six (a := x) sm hl)
    have HR := Lib.hid (fun (k : Nat) => yearsTo_range (a := x) (k := k) sm hl)
    clear ha hpl ho3 hs3 al ho1 S1 sm hx
    have b0 := hb.cell 0 rfl
    have b1 := hb.cell 1 rfl
    go_wp2
    rw [← HX.out]
    clear ca b0 b1
    go_loopw [6, 7] (fun t6 t7 wr => ∃ k : Nat, k ≤ 6 ∧ t7 = .int .i64 (1900 + k) ∧ t6 = .int .i64 (yearsTo L x k) ∧ Same w3 wr) (fun _ t7 _ => (1906 - intOf t7).toNat)
    case atStart => exact ⟨0, Nat.zero_le _, rfl, by rw [HZ.out], Same.refl _⟩
    case round =>
      obtain ⟨k, hk, rfl, rfl, hs⟩ := hrel
      have hbr := hb.same hs
      have b0 := hbr.cell 0 rfl
      have b1 := hbr.cell 1 rfl
      have hr := HR.out k
      by_cases hlt : k < 6
      · have hr2 := HR.out (k + 1)
        have HE := Lib.hid (HS.out k hlt)
        go_wp2_with fail
        refine (iYear_any A1 c1 L z (1900 + (k : Int)) x _ (by omega) (hR.same hs)).mono ?_
        rintro e w4 ⟨rfl, hs4⟩
        obtain ⟨y, hy⟩ : ∃ y, y = yearRes L z (1900 + (k : Int)) x := ⟨_, rfl⟩
        have HE2 := Lib.hid (show yearsTo L x k + y = yearsTo L x (k + 1) by rw [hy]; exact HE.out)
        have hyr : -22000000000 ≤ y ∧ y ≤ 22000000000 := by have := HE2.out; omega
        rw [← hy]
        clear hy b0 b1
        go_wp2
        go_roundw
        case rel => exact ⟨k + 1, by omega, by go_num, by rw [HE2.out], hs.trans hs4⟩
        case measure => simp [intOf]; omega
      · obtain rfl : k = 6 := by omega
        go_wp2_with fail
        refine (sAccount_any A1 c1 L x 71 _ (by omega) (hR.same hs)).mono ?_
        rintro e w4 ⟨rfl, hs4⟩
        rw [← H6.out]
        have hE := Lib.hid (show (yearsTo L x 6 == yearsTo L x 6) = true by simp)
        clear b0 b1
        go_wp2
        go_ret
        exact ⟨rfl, (S3.trans hs).trans hs4⟩
  · go_enter Try.func8, Try.ntmps8
    go_wp2_with (go_at_call 34; refine (big_yes A n c _ hn hbig).mono ?_; rintro e w' ⟨rfl, rfl⟩)
    go_ret
    exact ⟨rfl, Same.refl _⟩
end Go.Proofs.Ythelclibokkdnaa
