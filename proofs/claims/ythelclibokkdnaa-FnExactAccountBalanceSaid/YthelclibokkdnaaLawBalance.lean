/-
  FnExactAccountBalance: for every ledger, account and month the program's answer is the reference's, and the ledger is left as it was. No condition.
-/
import Derived.Test.YthelclibokkdnaaBalance
import Derived.Deep.RegionHeld3
namespace Go.Proofs.Ythelclibokkdnaa
open Go.RowKit

set_option maxHeartbeats 1000000 in
theorem lawBalance (AL : Option Addr) (cL : Nat) (L : List TPosting) (a : Int) (m : Int) (w : World) (hzL : L.length ≤ 9223372036854775807) (hAL : AtPosting w AL L) (_ : (Lit.int .i64 a).wf = true) (_ : (Lit.int .i64 m).wf = true) :
    Calls Try.prog 7 #[.agg #[.slice AL L.length cL], .int .i64 a, .int .i64 m] w fun e w' => e = .returned (.bool true) ∧ Same w w' := by
  by_cases hl : (L.length : Int) ≤ 1048576
  · have hE := Lib.hid (show (balance L a m != balance L a m) = false by simp)
    have hlL : L.length ≤ 1048576 := by omega
    go_enter Try.func7, Try.ntmps7
    go_wp2_with fail
    have ha := BoxAt.new w 33 [.slice AL L.length cL]
    have hs0 := (Same.refl w).alloc (.cells #[.slice AL L.length cL] 33)
    generalize w.alloc (.cells #[.slice AL L.length cL] 33) = w0 at *
    refine (szLedger_any AL L.length cL 1048576 _ hzL (by omega) (by omega)).mono ?_
    rintro e w1 ⟨rfl, hs1⟩
    rw [if_pos hl]
    have S1 := hs0.trans hs1
    replace ha := ha.same hs1
    have a0 := ha.cell 0 rfl
    clear hs0 hs1
    go_wp2_with fail
    refine (toLedger_any AL cL L _ hlL (hAL.same S1)).mono ?_
    rintro e w2 ⟨BL2, eL2, rfl, ho2L, hs2⟩
    go_wp2_with fail
    refine (sAccount_any _ _ L a m _ hzL (OwnR.recs cPosting_len ho2L)).mono ?_
    rintro e w3 ⟨rfl, hs3⟩
    have S3 := (S1.trans hs2).trans hs3
    replace ha := ha.same (hs2.trans hs3)
    have a0 := ha.cell 0 rfl
    clear ho2L hs2 hs3 S1
    go_wp2_with fail
    refine (toLedger_any AL cL L _ hlL (hAL.same S3)).mono ?_
    rintro e w4 ⟨BL4, eL4, rfl, ho4L, hs4⟩
    replace ha := ha.same hs4
    have S4 := S3.trans hs4
    clear hs4 S3
    go_wp2_with fail
    have hx := BoxAt.new w4 38 [.slice BL4 L.length eL4]
    have hs5 := (Same.refl w4).alloc (.cells #[.slice BL4 L.length eL4] 38)
    generalize w4.alloc (.cells #[.slice BL4 L.length eL4] 38) = w5 at *
    replace ho4L := OwnR.same ho4L hs5
    refine (iBal_any _ _ L a m _ hzL (OwnR.recs cPosting_len ho4L)).mono ?_
    rintro e w6 ⟨rfl, hs6⟩
    have S6 := (S4.trans hs5).trans hs6
    replace ha := ha.same (hs5.trans hs6)
    replace hx := hx.same hs6
    replace ho4L := OwnR.same ho4L hs6
    clear hs5 hs6 S4 a0
    have a0 := ha.cell 0 rfl
    have x0 := hx.cell 0 rfl
    go_wp2_with fail
    go_region_held3 (fun w' => w'.cell? ⟨w.heap.size, 0, none⟩ = some (.slice AL L.length cL) ∧ w'.cell? ⟨w4.heap.size, 0, none⟩ = some (.slice BL4 L.length eL4))
      (first | exact ⟨a0, x0⟩ | exact ⟨(ha.same ((Same.refl _).drew.trans hs7)).cell 0 rfl, (hx.same ((Same.refl _).drew.trans hs7)).cell 0 rfl⟩ | exact ⟨(ha.same (((Same.refl _).drew.trans hs7).trans hs8)).cell 0 rfl, (hx.same (((Same.refl _).drew.trans hs7).trans hs8)).cell 0 rfl⟩)
      (first
        | (go_at_call 24; refine (toLedger_any AL cL L _ hlL (hAL.same S6.drew)).mono ?_; rintro e w7 ⟨BL7, eL7, rfl, ho7L, hs7⟩)
        | (go_at_call 26; refine (eqLedger_any _ _ _ _ L L  _ hzL hzL (OwnR.recs cPosting_len (OwnR.same ho4L ((Same.refl _).drew.trans hs7))) (OwnR.recs cPosting_len ho7L)).mono ?_; rintro e w8 ⟨rfl, hs8⟩; rw [show (decide (L = L)) = true by simp]))
    go_wp2
    go_ret
    exact ⟨rfl, (S6.drew.trans hs7).trans hs8⟩
  · go_enter Try.func7, Try.ntmps7
    go_wp2_with fail
    refine (szLedger_any AL L.length cL 1048576 _ hzL (by omega) (by omega)).mono ?_
    rintro e w1 ⟨rfl, hs1⟩
    rw [if_neg (show ¬ (L.length : Int) ≤ 1048576 by omega)]
    go_wp2
    go_ret
    exact ⟨rfl, ((Same.refl w).alloc _).trans hs1⟩
end Go.Proofs.Ythelclibokkdnaa
