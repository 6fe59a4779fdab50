/-
  The trial balance.
-/
import Derived.Test.YthelclibokkdnaaBalance
import Derived.Test.YthelclibokkdnaaIntS
namespace Go.Proofs.Ythelclibokkdnaa
open Go.RowKit

def trialTo (L : List TPosting) (m : Int) (k : Nat) : List Int := (List.range k).map fun j : Nat => balance L ((j : Int) + 1) m
theorem trialTo_succ (L : List TPosting) (m : Int) (k : Nat) : trialTo L m (k + 1) = trialTo L m k ++ [balance L ((k : Int) + 1) m] := by simp [trialTo, List.range_succ]
theorem trialTo_length (L : List TPosting) (m : Int) (k : Nat) : (trialTo L m k).length = k := by simp [trialTo]
def trial (L : List TPosting) (m : Int) : List Int := if ledgerOk L = true then trialTo L m 9 else []
theorem trial_yes {L : List TPosting} {m : Int} (h : ledgerOk L = true) : trial L m = trialTo L m 9 := by rw [trial, if_pos h]
theorem trial_no {L : List TPosting} {m : Int} (h : ledgerOk L = false) : trial L m = [] := by rw [trial, if_neg (by simp [h])]
theorem trial_len (L : List TPosting) (m : Int) : (trial L m).length ≤ 600000 := by
  unfold trial
  split
  · rw [trialTo_length]; omega
  · simp

set_option maxHeartbeats 1000000 in
theorem sTrial_any (A : Option Addr) (c : Nat) (L : List TPosting) (m : Int) (w : World) (hz : L.length ≤ 9223372036854775807) (hA : AtPosting w A L) :
    Calls Try.prog 45 #[.agg #[.slice A L.length c], .int .i64 m] w (RetI w (trial L m)) := by
  cases hok : ledgerOk L
  · rw [trial_no hok]
    go_enter Try.func45, Try.ntmps45
    go_wp2
    have hb : BoxAt (w.alloc (.cells #[.slice A L.length c] 38)) (w.heap.size) 38 [.slice A L.length c] := by simpa using (BoxAt.new w 38 [.slice A L.length c])
    have hs0 := (Same.alloc (Same.refl w) (.cells #[.slice A L.length c] 38))
    have hsz : ((w.alloc (.cells #[.slice A L.length c] 38))).heap.size = w.heap.size + 1 := by simp
    generalize (w.alloc (.cells #[.slice A L.length c] 38)) = w0 at *
    have hz0 := hs0.size
    have ho : OwnI (w0.alloc (.cells #[] 3)) w.heap.size (.slice (some ⟨w.heap.size + 1, 0, none⟩) 0 0) [] := by rw [← hsz]; exact OwnI.empty _ hz0
    clear hsz
    replace hs0 := hs0.alloc (.cells #[] 3)
    replace hb := hb.alloc (.cells #[] 3)
    go_loopw [6, 5] (fun i o wr => i = .int .i64 1 ∧ o = .slice (some ⟨w.heap.size + 1, 0, none⟩) 0 0 ∧ OwnI wr w.heap.size (.slice (some ⟨w.heap.size + 1, 0, none⟩) 0 0) [] ∧ Same w wr ∧ BoxAt wr w.heap.size 38 [.slice A L.length c]) (fun _ _ _ => 0)
    case atStart => exact ⟨rfl, rfl, ho, hs0, hb⟩
    case round =>
      obtain ⟨rfl, rfl, ho, hs, hb⟩ := hrel
      have b0 := hb.cell 0 rfl
      go_wp2_with fail
      refine (sLedgerOk_any A c L _ hz (hA.same hs)).mono ?_
      rintro e w1 ⟨rfl, hs1⟩
      rw [hok]
      go_wp2
      go_ret
      exact RetI.of (ho.same hs1) (hs.trans hs1)
  · rw [trial_yes hok]
    go_enter Try.func45, Try.ntmps45
    go_wp2
    have hb : BoxAt (w.alloc (.cells #[.slice A L.length c] 38)) (w.heap.size) 38 [.slice A L.length c] := by simpa using (BoxAt.new w 38 [.slice A L.length c])
    have hs0 := (Same.alloc (Same.refl w) (.cells #[.slice A L.length c] 38))
    have hsz : ((w.alloc (.cells #[.slice A L.length c] 38))).heap.size = w.heap.size + 1 := by simp
    generalize (w.alloc (.cells #[.slice A L.length c] 38)) = w0 at *
    have hz0 := hs0.size
    have hlb := hb.lt
    have ho : OwnI (w0.alloc (.cells #[] 3)) w0.heap.size (.slice (some ⟨w.heap.size + 1, 0, none⟩) 0 0) (trialTo L m 0) := by rw [← hsz]; exact OwnI.empty _ (Nat.le_refl _)
    clear hsz
    replace hs0 := hs0.alloc (.cells #[] 3)
    have hn0 : w0.heap.size ≤ (w0.alloc (.cells #[] 3)).heap.size := by simp
    replace hb := hb.alloc (.cells #[] 3)
    go_loopw [6, 5] (fun i o wr => ∃ k : Nat, k ≤ 9 ∧ i = .int .i64 ((k : Int) + 1) ∧ OwnI wr w0.heap.size o (trialTo L m k) ∧ Same w wr ∧ w0.heap.size ≤ wr.heap.size ∧ BoxAt wr w.heap.size 38 [.slice A L.length c]) (fun i _ _ => (10 - intOf i).toNat)
    case atStart => exact ⟨0, by omega, rfl, ho, hs0, hn0, hb⟩
    case round =>
      obtain ⟨k, hk, rfl, ho, hs, hn, hb⟩ := hrel
      have b0 := hb.cell 0 rfl
      by_cases hlt : k < 9
      · go_wp2_with fail
        refine (sLedgerOk_any A c L _ hz (hA.same hs)).mono ?_
        rintro e w1 ⟨rfl, hs1⟩
        rw [hok]
        have b0 := (hb.same hs1).cell 0 rfl
        go_wp2_with fail
        refine (sBal_any A c L ((k : Int) + 1) m _ hok (hA.same (hs.trans hs1))).mono ?_
        rintro e w2 ⟨rfl, hs2⟩
        rw [show balTo L ((k : Int) + 1) m L.length = balance L ((k : Int) + 1) m by rw [balance, if_pos hok]]
        have S2 := (hs.trans hs1).trans hs2
        replace hb := hb.same (hs1.trans hs2)
        replace ho := ho.same (hs1.trans hs2)
        have hl' : (trialTo L m k).length ≤ 1000000000 := by rw [trialTo_length]; omega
        replace hn : w0.heap.size ≤ w2.heap.size := by have := (hs1.trans hs2).size; omega
        clear hs1 hs2 b0
        go_wp2_with (at_builtin; refine appI _ rfl (.tmp 16) (.tmp 21) rfl w0.heap.size _ _ rfl (OwnI.alloc ho _) w2.heap.size 1 (balance L ((k : Int) + 1) m) rfl (by simp) hl' (by simp; omega) ?_)
        intro v' w3 ho3 hup
        replace hb := (hb.alloc _).upd hup (.inl hlb)
        have S3 := (S2.alloc _).upds hup hz0
        have hn3 : w0.heap.size ≤ w3.heap.size := by have := hup.size; simp at this; omega
        clear hup
        go_wp2
        go_roundw
        case rel => exact ⟨k + 1, by omega, by go_num, by rw [trialTo_succ]; exact ho3, S3, hn3, hb⟩
        case measure => simp [intOf]; omega
      · obtain rfl : k = 9 := by omega
        go_wp2
        go_ret
        exact RetI.of (ho.base hz0) hs

set_option maxHeartbeats 1000000 in
theorem iTrial_any (A : Option Addr) (c : Nat) (L : List TPosting) (m : Int) (w : World) (hz : L.length ≤ 9223372036854775807) (hA : AtPosting w A L) :
    Calls Try.prog 39 #[.agg #[.slice A L.length c], .int .i64 m] w (RetI w (trial L m)) := by
  cases hok : ledgerOk L
  · rw [trial_no hok]
    go_enter Try.func39, Try.ntmps39
    go_wp2_with fail
    refine (iLedgerOk_any A c L _ hz (hA.same ((Same.refl w).alloc _))).mono ?_
    rintro e w1 ⟨rfl, hs1⟩
    rw [hok]
    go_wp2
    go_ret
    exact RetI.of (OwnI.nil _ _) (((Same.refl w).alloc _).trans hs1)
  · rw [trial_yes hok]
    go_enter Try.func39, Try.ntmps39
    go_wp2_with fail
    have hb : BoxAt (w.alloc (.cells #[.slice A L.length c] 38)) (w.heap.size) 38 [.slice A L.length c] := by simpa using (BoxAt.new w 38 [.slice A L.length c])
    have hs0 := (Same.alloc (Same.refl w) (.cells #[.slice A L.length c] 38))
    generalize (w.alloc (.cells #[.slice A L.length c] 38)) = w9 at *
    refine (iLedgerOk_any A c L _ hz (hA.same hs0)).mono ?_
    rintro e w0 ⟨rfl, hs1⟩
    rw [hok]
    replace hs0 := hs0.trans hs1
    replace hb := hb.same hs1
    clear hs1
    have hz0 := hs0.size
    have hlb := hb.lt
    go_wp2
    have ho : OwnI (w0.alloc (.cells #[] 3)) w0.heap.size (.slice (some ⟨w0.heap.size, 0, none⟩) 0 0) (trialTo L m 0) := OwnI.empty _ (Nat.le_refl _)
    replace hs0 := hs0.alloc (.cells #[] 3)
    have hn0 : w0.heap.size ≤ (w0.alloc (.cells #[] 3)).heap.size := by simp
    replace hb := hb.alloc (.cells #[] 3)
    go_loopw [6, 5] (fun i o wr => ∃ k : Nat, k ≤ 9 ∧ i = .int .i64 ((k : Int) + 1) ∧ OwnI wr w0.heap.size o (trialTo L m k) ∧ Same w wr ∧ w0.heap.size ≤ wr.heap.size ∧ BoxAt wr w.heap.size 38 [.slice A L.length c]) (fun i _ _ => (10 - intOf i).toNat)
    case atStart => exact ⟨0, by omega, rfl, ho, hs0, hn0, hb⟩
    case round =>
      obtain ⟨k, hk, rfl, ho, hs, hn, hb⟩ := hrel
      have b0 := hb.cell 0 rfl
      by_cases hlt : k < 9
      · go_wp2_with fail
        refine (iBal_any A c L ((k : Int) + 1) m _ hz (hA.same hs)).mono ?_
        rintro e w2 ⟨rfl, hs2⟩
        have S2 := hs.trans hs2
        replace hb := hb.same hs2
        replace ho := ho.same hs2
        have hl' : (trialTo L m k).length ≤ 1000000000 := by rw [trialTo_length]; omega
        replace hn : w0.heap.size ≤ w2.heap.size := by have := hs2.size; omega
        clear hs2 b0
        go_wp2_with (at_builtin; refine appI _ rfl (.tmp 15) (.tmp 20) rfl w0.heap.size _ _ rfl (OwnI.alloc ho _) w2.heap.size 1 (balance L ((k : Int) + 1) m) rfl (by simp) hl' (by simp; omega) ?_)
        intro v' w3 ho3 hup
        replace hb := (hb.alloc _).upd hup (.inl hlb)
        have S3 := (S2.alloc _).upds hup hz0
        have hn3 : w0.heap.size ≤ w3.heap.size := by have := hup.size; simp at this; omega
        clear hup
        go_wp2
        go_roundw
        case rel => exact ⟨k + 1, by omega, by go_num, by rw [trialTo_succ]; exact ho3, S3, hn3, hb⟩
        case measure => simp [intOf]; omega
      · obtain rfl : k = 9 := by omega
        go_wp2
        go_ret
        exact RetI.of (ho.base hz0) hs
end Go.Proofs.Ythelclibokkdnaa
