/-
  FnProofs: for every list of bytes the law of the suspended months holds of the drawn proofs of life. No condition.
-/
import Derived.Test.YtegcfjnjgklchaaDrawProofs
import Derived.Test.YtegcfjnjgklchaaHeld
namespace Go.Proofs.Ytegcfjnjgklchaa
open Go.RowKit

set_option maxHeartbeats 1000000 in
theorem lawProofs (A : Option Addr) (n c : Nat) (w : World) (hn : n ≤ 9223372036854775807) (hA : BytesAt w w.heap.size A n) :
    Calls Try.prog 10 #[.slice A n c] w fun e w' => e = .returned (.bool true) ∧ Same w w' := by
  by_cases hbig : n ≤ 1048576
  · go_enter Try.func10, Try.ntmps10
    go_wp2_with fail
    refine (big_no A n c _ hbig).mono ?_
    rintro e w0 ⟨rfl, rfl⟩
    go_wp2_with fail
    refine (drawProofs_any A n c _ hbig hA).mono ?_
    rintro e w1 ⟨zs, B, d, rfl, hok, ho1, hs1⟩
    have zl := ho1.zn
    go_wp2_with fail
    refine (drawPlaces_any A n c _ hbig (hA.keep' hs1)).mono ?_
    rintro e w2 ⟨ps, D, f, rfl, hpl, ho2, hs2⟩
    obtain ⟨a, ha, ha0, ha1⟩ := hpl.get (k := 0) (by omega)
    obtain ⟨b, hb', hb0, hb1⟩ := hpl.get (k := 1) (by omega)
    obtain ⟨q, hq, hq0, hq1⟩ := hpl.get (k := 2) (by omega)
    obtain ⟨g, rfl, _⟩ := ho2.at_ ha
    have ca := ho2.cell ha
    have cb := ho2.cell hb'
    have cq := ho2.cell hq
    have hl12 : (12 : Int) ≤ (ps.length : Int) := by have := hpl.1; omega
    clear ha hb' hq hpl ho2
    have hI1 := ho1.ints.same hs2
    have hS2 := hs1.trans hs2
    clear ho1 hs1 hs2 zl
    go_wp2_with fail
    obtain ⟨st, hst⟩ : ∃ st, st = a % 30 := ⟨_, rfl⟩
    obtain ⟨li, hli⟩ : ∃ li, li = 1 + b % 20 := ⟨_, rfl⟩
    obtain ⟨qn, hqn⟩ : ∃ qn : Nat, (qn : Int) = q % 80 := ⟨(q % 80).toNat, by omega⟩
    have b1 : 0 ≤ st ∧ st ≤ 29 := by omega
    have b2 : 1 ≤ li ∧ li ≤ 20 := by omega
    have b3 : qn ≤ 79 := by omega
    rw [← hst, ← hli, ← hqn]
    clear hst hli hqn ca cb cq ha0 ha1 hb0 hb1 hq0 hq1
    have hpo : paidOk zs st (st + qn) li = true := by simp [paidOk, show proofsOk zs = true from hok, inB]; omega
    have hzl := proofsOk_len hok
    refine (iPaid_any B d zs st (st + qn) li _ (by omega) hI1).mono ?_
    rw [paidTo_mid zs hpo, show (st + (qn : Int) - st).toNat = qn by omega]
    rintro e w3 ⟨P, pc, rfl, hp3, hs3⟩
    have hI3 := hI1.same hs3
    have hS3 := hS2.trans hs3
    have hPl := paidTo_length zs st li qn
    have hP := hp3.ints
    clear hp3 hs3 hI1 hS2
    rw [hPl]
    have hlen : ((paidTo zs st li qn).length : Int) = qn := by omega
    have HPL := Lib.hid hPl
    have HLEN := Lib.hid hlen
    clear hPl hlen
    have HPO := Lib.hid hpo
    clear hpo
    have hbne : ((qn : Int) != st + (qn : Int) - st) = false := by simp; omega
    go_wp2
    go_loop [9, 10] (fun s i => ∃ k : Nat, k ≤ qn ∧ i = .int .i64 k ∧ s = .int .i64 ((k : Int) - heldTo zs st li k)) (fun _ i => qn - (intOf i).toNat)
    case atStart => exact ⟨0, Nat.zero_le _, rfl, rfl⟩
    case round =>
      obtain ⟨k, hk, rfl, rfl⟩ := hrel
      have hh := heldTo_range zs st li k
      by_cases hlt : k < qn
      · have hx := paidTo_at (zs := zs) (start := st) (limit := li) (k := k) (qn - (k + 1))
        rw [show k + 1 + (qn - (k + 1)) = qn by omega] at hx
        have hsu : suspB zs st (st + k) li = lateB zs st (st + k) li := by
          simp [suspB, show proofsOk zs = true from hok, inB]; omega
        have HSU := Lib.hid hsu
        clear hsu
        cases hla : lateB zs st (st + (k : Int)) li
        · rw [hla] at hx
          simp only [Bool.false_eq_true, if_false] at hx
          obtain ⟨b', off, x, rfl, hcx, HX, _⟩ := hP.at_ (k := k) (by rw [HPL.out]; exact hlt)
          clear hP
          obtain rfl : x = 1 + heldTo zs st li k := Option.some.inj (HX.out.symm.trans hx)
          clear HX hx
          have HN := Lib.hid (heldTo_not hla)
          have HLA := Lib.hid hla
          clear hla
          have hne : ((1 + heldTo zs st li k) == 0) = false := by simp; omega
          have hq : ((k : Int) - heldTo zs st li k + (1 + heldTo zs st li k) != (k : Int) + 1) = false := by simp; omega
          go_wp2_with fail
          refine (iIsSuspended_any B d zs st (st + k) li _ (by omega) hI3).mono ?_
          rintro e w4 ⟨rfl, rfl⟩
          rw [HSU.out, HLA.out]
          go_wp2_with fail
          go_round
          case rel => exact ⟨k + 1, hlt, by go_num, by rw [HN.out]; go_num⟩
          case measure => simp [intOf]; omega
        · rw [hla] at hx
          simp only [if_true] at hx
          obtain ⟨b', off, x, rfl, hcx, HX, _⟩ := hP.at_ (k := k) (by rw [HPL.out]; exact hlt)
          clear hP
          obtain rfl : x = 0 := Option.some.inj (HX.out.symm.trans hx)
          clear HX hx
          have HN := Lib.hid (heldTo_late hla)
          have HLA := Lib.hid hla
          clear hla
          go_wp2_with fail
          refine (iIsSuspended_any B d zs st (st + k) li _ (by omega) hI3).mono ?_
          rintro e w4 ⟨rfl, rfl⟩
          rw [HSU.out, HLA.out]
          go_wp2_with fail
          go_round
          case rel => exact ⟨k + 1, hlt, by go_num, by rw [HN.out]; go_num⟩
          case measure => simp [intOf]; omega
      · obtain rfl : k = qn := by omega
        clear hlt hP
        have hhb : heldBack zs st (st + k) li = heldTo zs st li k := by
          rw [heldBack, if_pos HPO.out, show (st + (k : Int) - st).toNat = k by omega]
        have HHB := Lib.hid hhb
        clear hhb
        have hfe : (heldTo zs st li k == st + (k : Int) - st - ((k : Int) - heldTo zs st li k)) = true := by simp; omega
        go_wp2_with fail
        refine (iHeld_any B d zs st (st + k) li _ (by omega) hI3).mono ?_
        rintro e w4 ⟨rfl, hs4⟩
        rw [HHB.out]
        go_wp2_with fail
        refine (iProofsOk_any B d zs _ (by omega) (hI3.same hs4)).mono ?_
        rintro e w5 ⟨rfl, rfl⟩
        rw [show proofsOk zs = true from hok]
        go_wp2_with fail
        go_ret
        exact ⟨rfl, hS3.trans hs4⟩
  · go_enter Try.func10, Try.ntmps10
    go_wp2_with (go_at_call 30; refine (big_yes A n c _ hn hbig).mono ?_; rintro e w' ⟨rfl, rfl⟩)
    go_ret
    exact ⟨rfl, Same.refl _⟩
end Go.Proofs.Ytegcfjnjgklchaa
