/-
  FnRecovered: for every list of bytes, of the drawn debt what is withheld never exceeds the protected share or the debt, and the rest is waived. No condition.
-/
import Derived.Test.YtmpeohmhkhhooaaDrawRec
import Derived.Test.YtmpeohmhkhhooaaRecov2
import Derived.Test.YtmpeohmhkhhooaaNet
namespace Go.Proofs.Ytmpeohmhkhhooaa
open Go.RowKit

theorem zeroFrom_lt (f : Nat → Int) : ∀ (d k : Nat), zeroFrom f k d < (k : Int) + d ∨ zeroFrom f k d = -1
  | 0, k => .inr rfl
  | d + 1, k => by
    by_cases h : f k = 0
    · rw [zeroFrom_yes h]; omega
    · rw [zeroFrom_no h]
      have := zeroFrom_lt f d (k + 1)
      omega
theorem zeroFrom_some {f : Nat → Int} : ∀ {d k j : Nat}, k ≤ j → j < k + d → f j = 0 → (k : Int) ≤ zeroFrom f k d
  | 0, k, j, h1, h2, _ => by omega
  | d + 1, k, j, h1, h2, h3 => by
    by_cases h : f k = 0
    · rw [zeroFrom_yes h]; omega
    · rw [zeroFrom_no h]
      have hne : k ≠ j := fun e => h (e ▸ h3)
      have := zeroFrom_some (d := d) (k := k + 1) (j := j) (by omega) (by omega) h3
      omega
theorem zeroFrom_none {f : Nat → Int} : ∀ {d k : Nat}, (∀ j, k ≤ j → j < k + d → f j ≠ 0) → zeroFrom f k d = -1
  | 0, _, _ => rfl
  | d + 1, k, h => by
    rw [zeroFrom_no (h k (Nat.le_refl _) (by omega))]
    exact zeroFrom_none fun j h1 h2 => h j (by omega) (by omega)
theorem owed_mono {debt pct : Int} {zs : List Int} (h : recOk debt zs pct = true) (k : Nat) : ∀ d, owed debt zs pct (k + d) ≤ owed debt zs pct k
  | 0 => Int.le_refl _
  | d + 1 => by
    have h1 := owed_mono h k d
    have h2 := share_range h (k + d)
    have h3 := owed_range h (k + d)
    rw [← Nat.add_assoc, owed]
    omega
theorem rec_spec {debt pct : Int} {zs : List Int} (h : recOk debt zs pct = true) :
    (owed debt zs pct zs.length = 0 → 0 ≤ recoveredBy debt zs pct) ∧ (owed debt zs pct zs.length ≠ 0 → recoveredBy debt zs pct = -1) ∧ recoveredBy debt zs pct ≤ zs.length := by
  rw [recoveredBy, if_pos h]
  refine ⟨fun h0 => by have := zeroFrom_some (f := owed debt zs pct) (d := zs.length + 1) (k := 0) (j := zs.length) (by omega) (by omega) h0; omega, fun h0 => zeroFrom_none fun j _ h2 e => ?_, by have := zeroFrom_lt (owed debt zs pct) (zs.length + 1) 0; omega⟩
  have h3 := owed_mono h j (zs.length - j)
  rw [show j + (zs.length - j) = zs.length by omega] at h3
  have := owed_range h zs.length
  omega
theorem netTo_at {zs P : List Int} {k : Nat} {z x : Int} (hz : zs[k]? = some z) (hx : P[k]? = some x) : ∀ n : Nat, k < n → (netTo zs P n)[k]? = some (z - x)
  | 0, h => absurd h (Nat.not_lt_zero _)
  | n + 1, h => by
    by_cases e : k = n
    · subst e
      rw [netTo_succ hz hx, List.getElem?_append_right (by rw [netTo_length]; omega), netTo_length]
      simp
    · rw [netTo, List.getElem?_append_left (by rw [netTo_length]; omega)]
      exact netTo_at hz hx n (by omega)

set_option maxHeartbeats 2000000 in
theorem lawRecovered (A : Option Addr) (n c : Nat) (w : World) (hn : n ≤ 9223372036854775807) (hA : BytesAt w w.heap.size A n) :
    Calls Try.prog 8 #[.slice A n c] w fun e w' => e = .returned (.bool true) ∧ Same w w' := by
  by_cases hbig : n ≤ 1048576
  · go_enter Try.func8, Try.ntmps8
    go_wp2_with fail
    refine (big_no A n c _ hbig).mono ?_
    rintro e w0 ⟨rfl, rfl⟩
    go_wp2_with fail
    refine (drawRecovery_any A n c _ hbig hA).mono ?_
    rintro e w1 ⟨d, zs, p, ad, f, rfl, hv, ho1, hs1⟩
    have hok := hv.ok
    obtain ⟨hd, ⟨hlen, hzr⟩, hp⟩ := hv
    have hz : zs.length ≤ 9223372036854775807 := by omega
    have hI := ho1.ints
    have HZR := Lib.hid hzr
    clear ho1 hzr
    obtain ⟨P, hP⟩ : ∃ P, P = plan d zs p := ⟨_, rfl⟩
    have hPl : P.length = zs.length := by rw [hP, plan_yes hok, planTo_length]
    have HPA := Lib.hid (show ∀ k, k < zs.length → P[k]? = some (min (owed d zs p k) (share zs p k)) from fun k hk => by rw [hP]; exact plan_at hok hk)
    have HP := Lib.hid hP
    obtain ⟨M, hM⟩ : ∃ M, M = netAmounts d zs p := ⟨_, rfl⟩
    have hMl : M.length = zs.length := by rw [hM, netAmounts, netTo_length, ← hP, hPl]
    have HMA := Lib.hid (show ∀ k z x, zs[k]? = some z → P[k]? = some x → M[k]? = some (z - x) from fun k z x h1 h2 => by rw [hM, netAmounts, ← hP]; exact netTo_at h1 h2 _ (List.getElem?_eq_some_iff.1 h2).1)
    have HM := Lib.hid hM
    have HOK := Lib.hid hok
    clear hP hM hok
    go_wp2_with fail
    refine (iPlan_any d _ f zs p _ hz hI).mono ?_
    rw [← HP.out]
    rintro e w2 ⟨P1, pc, rfl, hop, hs2⟩
    replace hI := hI.same hs2
    have hPI := hop.ints
    have S2 := hs1.trans hs2
    clear hop hs1 hs2
    go_wp2_with fail
    refine (iNetAmounts_any d _ f zs p _ hz hI).mono ?_
    rw [← HM.out]
    rintro e w3 ⟨N1, nc, rfl, hon, hs3⟩
    replace hI := hI.same hs3
    replace hPI := hPI.same hs3
    have hMI := hon.ints
    have S3 := S2.trans hs3
    clear hon hs3 S2
    have b1 : ((P.length : Int) != (zs.length : Int)) = false := by rw [hPl]; simp
    have b2 : ((M.length : Int) != (zs.length : Int)) = false := by rw [hMl]; simp
    go_wp2
    go_loopw [8, 9] (fun s i wr => ∃ k : Nat, k ≤ zs.length ∧ i = .int .i64 k ∧ s = .int .i64 (d - owed d zs p k) ∧ Same w3 wr) (fun _ i _ => zs.length - (intOf i).toNat)
    case atStart => exact ⟨0, Nat.zero_le _, rfl, congrArg (Value.int .i64) (by simp [owed]), Same.refl _⟩
    case round =>
      obtain ⟨k, hk, rfl, rfl, hs⟩ := hrel
      have hr := owed_range HOK.out k
      by_cases hlt : k < zs.length
      · obtain ⟨b, off, x, rfl, c1, HX, _⟩ := (hPI.same hs).at_ (k := k) (by omega)
        obtain ⟨b', off', z, had, c2, HZ, _⟩ := (hI.same hs).at_ (k := k) (by omega)
        injection had with had
        subst had
        obtain ⟨b'', off'', y, rfl, c3, HY, _⟩ := (hMI.same hs).at_ (k := k) (by omega)
        clear hPI hI hMI
        have hx : x = min (owed d zs p k) (share zs p k) := Option.some.inj (HX.out.symm.trans (HPA.out k hlt))
        have hy : y = z - x := Option.some.inj (HY.out.symm.trans (HMA.out k z x HZ.out HX.out))
        have hsr := share_range HOK.out k
        have hsh := share_at (pct := p) HZ.out
        obtain ⟨z0, z1, zp0, zp1⟩ := share_facts HOK.out HZ.out
        have HO := Lib.hid (show owed d zs p (k + 1) = owed d zs p k - x by rw [hx]; rfl)
        obtain ⟨x0, x1, x2⟩ : 0 ≤ x ∧ x ≤ owed d zs p k ∧ x * 100 ≤ z * p := by omega
        have hz2 := HZR.out z (List.mem_of_getElem? HZ.out)
        clear hx hsr hsh
        obtain ⟨o, ho⟩ : ∃ o, o = owed d zs p k := ⟨_, rfl⟩
        rw [← ho] at hr x1 ⊢
        have HOO := Lib.hid ho
        clear ho
        have hxy : x + y = z := by omega
        have b3 : (x + y != z) = false := by rw [hxy]; simp
        have q8 : IntKind.i64.wrap (x + y) = x + y := by rw [hxy]; exact IntWalk.i64_in _ (by omega)
        clear hy hxy
        have q1 : (k : Int) < (P.length : Int) := by omega
        have q4 : decide (z * p < x * 100) = false := decide_eq_false (by omega)
        have q5 : IntKind.i64.wrap (z * p) = z * p := IntWalk.i64_in _ (by omega)
        have q6 : IntKind.i64.wrap (x * 100) = x * 100 := IntWalk.i64_in _ (by omega)
        have q7 : decide (x < 0) = false := decide_eq_false (by omega)
        have q2 : (k : Int) < (M.length : Int) := by omega
        have q3 : (k : Int) < (zs.length : Int) := by omega
        go_wp2
        go_quiet (fail)
        go_wp2
        go_roundw
        case rel => exact ⟨k + 1, hlt, by go_num, congrArg (Value.int .i64) (by have h1 := HO.out; have h2 := HOO.out; omega), hs.drewN _⟩
        case measure => simp [intOf]; omega
      · obtain rfl : k = zs.length := by omega
        have hsp := rec_spec HOK.out
        have HW := Lib.hid (show waived d zs p = owed d zs p zs.length by rw [waived, if_pos HOK.out])
        obtain ⟨o, ho⟩ : ∃ o, o = owed d zs p zs.length := ⟨_, rfl⟩
        rw [← ho] at hr hsp HW ⊢
        clear ho
        obtain ⟨R, hR⟩ : ∃ R, R = recoveredBy d zs p := ⟨_, rfl⟩
        rw [← hR] at hsp
        have HR := Lib.hid hR
        clear hR
        obtain ⟨h1, h2, h3⟩ := hsp
        have e1 : (o == d - (d - o)) = true := by simp; omega
        obtain ⟨s, hs'⟩ : ∃ s, s = d - o := ⟨_, rfl⟩
        have hs0 : 0 ≤ s ∧ s ≤ d := by omega
        rw [← hs'] at e1 ⊢
        by_cases ho0 : o = 0
        · have e2 : (o == 0) = true := by simp [ho0]
          have e3 : 0 ≤ R := h1 ho0
          clear h1 h2 ho0 hs'
          go_wp2_with fail
          refine (iRecoveredBy_any d _ f zs p _ hz (hI.same hs)).mono ?_
          rw [← HR.out]
          rintro e w4 ⟨rfl, hs4⟩
          go_wp2_with fail
          refine (iWaived_any d _ f zs p _ hz ((hI.same hs).same hs4)).mono ?_
          rw [HW.out]
          rintro e w5 ⟨rfl, hs5⟩
          go_wp2
          go_ret
          exact ⟨by first | rfl | (simp; done) | (simp; omega), ((S3.trans hs).trans hs4).trans hs5⟩
        · have e2 : (o == 0) = false := by simp [ho0]
          have e3 : R < 0 := by have := h2 ho0; omega
          clear h1 h2 ho0 hs'
          go_wp2_with fail
          refine (iRecoveredBy_any d _ f zs p _ hz (hI.same hs)).mono ?_
          rw [← HR.out]
          rintro e w4 ⟨rfl, hs4⟩
          go_wp2_with fail
          refine (iWaived_any d _ f zs p _ hz ((hI.same hs).same hs4)).mono ?_
          rw [HW.out]
          rintro e w5 ⟨rfl, hs5⟩
          go_wp2
          go_ret
          exact ⟨by first | rfl | (simp; done) | (simp; omega), ((S3.trans hs).trans hs4).trans hs5⟩
  · go_enter Try.func8, Try.ntmps8
    go_wp2_with (go_at_call 30; refine (big_yes A n c _ hn hbig).mono ?_; rintro e w' ⟨rfl, rfl⟩)
    go_ret
    exact ⟨rfl, Same.refl _⟩
end Go.Proofs.Ytmpeohmhkhhooaa
