/-
  The contracts of ClosedPart.
-/
import Derived.Test.YthelclibokkdnaaClosed
namespace Go.Proofs.Ythelclibokkdnaa
open Go.RowKit

def closedPart (L : List TPosting) (z : Int) : List TPosting := if (ledgerOk L && inB z 0 3599) = true then L.filter (openQ z) else []
theorem closedPart_no {L : List TPosting} {z : Int} (h : (ledgerOk L && inB z 0 3599) = false) : closedPart L z = [] := by simp [closedPart, h]
theorem closedPart_yes {L : List TPosting} {z : Int} (h : (ledgerOk L && inB z 0 3599) = true) : closedPart L z = L.filter (openQ z) := by rw [closedPart, if_pos h]
theorem closedPart_len (L : List TPosting) (z : Int) : (closedPart L z).length ≤ 600000 := by
  unfold closedPart
  split
  · rename_i h
    rw [Bool.and_eq_true, ledgerOk, Bool.and_eq_true, decide_eq_true_eq] at h
    have := List.length_filter_le (openQ z) L
    omega
  · simp

set_option maxHeartbeats 1000000 in
theorem iClosedPart_any (A : Option Addr) (c : Nat) (L : List TPosting) (z : Int) (w : World) (hz : L.length ≤ 9223372036854775807) (hA : AtPosting w A L) :
    Calls Try.prog 46 #[.agg #[.slice A L.length c, .int .i64 z]] w (RetR 25 4 cPosting w (closedPart L z)) := by
  cases hok : (ledgerOk L && inB z 0 3599)
  · rw [closedPart_no hok]
    go_enter Try.func46, Try.ntmps46
    go_wp2_with fail
    refine (iBooksOk_any A c L z _ hz (hA.same ((Same.refl w).alloc _))).mono ?_
    rintro e w1 ⟨rfl, hs1⟩
    rw [hok]
    go_wp2
    go_ret
    exact RetR.of (OwnR.nil _ _ _ _ _) (((Same.refl w).alloc _).trans hs1)
  · rw [closedPart_yes hok]
    have hlen : L.length ≤ 300 := by
      rw [Bool.and_eq_true, ledgerOk, Bool.and_eq_true, decide_eq_true_eq] at hok
      exact hok.1.1
    have hmf : ∀ (fn : Fn) (first cap : Array Value) (w : World), (Instr.makeFunc fn first cap).run Try.prog w = .ok (.func fn first cap) w := fun _ _ _ _ => rfl
    go_enter Try.func46, Try.ntmps46
    go_wp2_with fail
    have hb : BoxAt (w.alloc (.cells #[.slice A L.length c, .int .i64 z] 47)) (w.heap.size) 47 [.slice A L.length c, .int .i64 z] := by simpa using (BoxAt.new w 47 [.slice A L.length c, .int .i64 z])
    have hs0 := (Same.alloc (Same.refl w) (.cells #[.slice A L.length c, .int .i64 z] 47))
    generalize (w.alloc (.cells #[.slice A L.length c, .int .i64 z] 47)) = w0 at *
    refine (iBooksOk_any A c L z _ hz (hA.same hs0)).mono ?_
    rintro e w1 ⟨rfl, hs1⟩
    rw [hok]
    have S1 := hs0.trans hs1
    replace hb := hb.same hs1
    clear hs0 hs1
    have b0 := hb.cell 0 rfl
    have b1 := hb.cell 1 rfl
    go_wp2_with fail
    refine (clonePosting_any A c L _ (by omega) (hA.same S1)).mono ?_
    rintro e w2 ⟨A2, c2, rfl, ho2, hs2⟩
    have hlb := hb.lt
    have S2 := S1.trans hs2
    have hn1 := S1.size
    have hn2 := hs2.size
    replace hb := hb.same hs2
    clear hs2 S1 b0 b1
    have b1 := hb.cell 1 rfl
    go_wp2_with fail
    refine (deleteClosed_any w.heap.size z A2 c2 L _ _ (by omega) ho2 hlb hn2 b1).mono ?_
    rintro e w3 ⟨A3, c3, rfl, ho3, hu3⟩
    have S3 := S2.upds hu3 hn1
    clear hu3 S2
    go_wp2
    go_ret
    exact ⟨A3, c3, rfl, ho3.rebase hn1, S3⟩

set_option maxHeartbeats 2000000 in
theorem sClosedPart_any (A : Option Addr) (c : Nat) (L : List TPosting) (z : Int) (w : World) (hz : L.length ≤ 9223372036854775807) (hA : AtPosting w A L) :
    Calls Try.prog 55 #[.agg #[.slice A L.length c, .int .i64 z]] w (RetR 25 4 cPosting w (closedPart L z)) := by
  cases hok : (ledgerOk L && inB z 0 3599)
  · rw [closedPart_no hok]
    go_enter Try.func55, Try.ntmps55
    go_wp2
    have hb : BoxAt (w.alloc (.cells #[.slice A L.length c, .int .i64 z] 47)) (w.heap.size) 47 [.slice A L.length c, .int .i64 z] := by simpa using (BoxAt.new w 47 [.slice A L.length c, .int .i64 z])
    have hs0 := (Same.alloc (Same.refl w) (.cells #[.slice A L.length c, .int .i64 z] 47))
    have hsz : ((w.alloc (.cells #[.slice A L.length c, .int .i64 z] 47))).heap.size = w.heap.size + 1 := by simp
    generalize (w.alloc (.cells #[.slice A L.length c, .int .i64 z] 47)) = w0 at *
    have hz0 := hs0.size
    have ho : OwnPosting (w0.alloc (.cells #[] 25)) w.heap.size (.slice (some ⟨w.heap.size + 1, 0, none⟩) 0 0) [] := by rw [← hsz]; exact OwnR.empty _ _ _ _ hz0
    clear hsz
    replace hs0 := hs0.alloc (.cells #[] 25)
    replace hb := hb.alloc (.cells #[] 25)
    go_loopw [4, 3] (fun i o wr => i = .int .i64 0 ∧ o = .slice (some ⟨w.heap.size + 1, 0, none⟩) 0 0 ∧ OwnPosting wr w.heap.size (.slice (some ⟨w.heap.size + 1, 0, none⟩) 0 0) [] ∧ Same w wr ∧ BoxAt wr w.heap.size 47 [.slice A L.length c, .int .i64 z]) (fun _ _ _ => 0)
    case atStart => exact ⟨rfl, rfl, ho, hs0, hb⟩
    case round =>
      obtain ⟨rfl, rfl, ho, hs, hb⟩ := hrel
      have b0 := hb.cell 0 rfl
      have b1 := hb.cell 1 rfl
      by_cases hlt : (0 : Int) < L.length
      · go_wp2_with fail
        refine (sBooksOk_any A c L z _ hz (hA.same hs)).mono ?_
        rintro e w1 ⟨rfl, hs1⟩
        rw [hok]
        go_wp2
        go_ret
        exact RetR.of (ho.same hs1) (hs.trans hs1)
      · go_wp2
        go_ret
        exact RetR.of ho hs
  · rw [closedPart_yes hok]
    have hlen : L.length ≤ 300 := by
      rw [Bool.and_eq_true, ledgerOk, Bool.and_eq_true, decide_eq_true_eq] at hok
      exact hok.1.1
    go_enter Try.func55, Try.ntmps55
    go_wp2
    have hb : BoxAt (w.alloc (.cells #[.slice A L.length c, .int .i64 z] 47)) (w.heap.size) 47 [.slice A L.length c, .int .i64 z] := by simpa using (BoxAt.new w 47 [.slice A L.length c, .int .i64 z])
    have hs0 := (Same.alloc (Same.refl w) (.cells #[.slice A L.length c, .int .i64 z] 47))
    have hsz : ((w.alloc (.cells #[.slice A L.length c, .int .i64 z] 47))).heap.size = w.heap.size + 1 := by simp
    generalize (w.alloc (.cells #[.slice A L.length c, .int .i64 z] 47)) = w0 at *
    have hz0 := hs0.size
    have hlb := hb.lt
    have ho : OwnPosting (w0.alloc (.cells #[] 25)) w0.heap.size (.slice (some ⟨w.heap.size + 1, 0, none⟩) 0 0) ((L.take 0).filter (openQ z)) := by rw [← hsz]; exact OwnR.empty _ _ _ _ (Nat.le_refl _)
    clear hsz
    have hn0 : w0.heap.size ≤ (w0.alloc (.cells #[] 25)).heap.size := by simp
    replace hs0 := hs0.alloc (.cells #[] 25)
    replace hb := hb.alloc (.cells #[] 25)
    go_loopw [4, 3] (fun i o wr => ∃ k : Nat, k ≤ L.length ∧ i = .int .i64 k ∧ OwnPosting wr w0.heap.size o ((L.take k).filter (openQ z)) ∧ Same w wr ∧ w0.heap.size ≤ wr.heap.size ∧ BoxAt wr w.heap.size 47 [.slice A L.length c, .int .i64 z]) (fun i _ _ => L.length - (intOf i).toNat)
    case atStart => exact ⟨0, Nat.zero_le _, rfl, ho, hs0, hn0, hb⟩
    case round =>
      obtain ⟨k, hk, rfl, ho, hs, hn, hb⟩ := hrel
      have b0 := hb.cell 0 rfl
      have b1 := hb.cell 1 rfl
      by_cases hlt : k < L.length
      · go_wp2_with fail
        refine (sBooksOk_any A c L z _ hz (hA.same hs)).mono ?_
        rintro e w1 ⟨rfl, hs1⟩
        rw [hok]
        have S1 := hs.trans hs1
        replace hb := hb.same hs1
        replace ho := OwnR.same ho hs1
        replace hn : w0.heap.size ≤ w1.heap.size := by have := hs1.size; omega
        clear hs hs1 b0 b1
        have b0 := hb.cell 0 rfl
        have b1 := hb.cell 1 rfl
        obtain ⟨b, off, x, rfl, hc, HX, _⟩ := (hA.same S1).at_ hlt
        have hl' : ((L.take k).filter (openQ z)).length ≤ 1000000000 := by
          have := List.length_filter_le (openQ z) (L.take k)
          rw [List.length_take] at this
          omega
        clear hA
        obtain ⟨f0, f1, f2, f3⟩ := x
        have c0 := hc 0 _ rfl
        have c1 := hc 1 _ rfl
        have c2 := hc 2 _ rfl
        have c3 := hc 3 _ rfl
        simp only [Nat.add_zero] at c0
        clear hc
        by_cases hm : f0 < z
        · have HF := Lib.hid (filter_take_yes HX.out (show openQ z (f0, f1, f2, f3) = true by simp [openQ]; omega))
          go_wp2
          go_quiet (fail)
          go_wp2_with (at_builtin; refine wpList_of rfl fun _ hK => wp_appR _ (.tmp 28) (.tmp 35) 36 rfl (.agg #[.int .i64 0, .int .i64 0, .int .i64 0, .int .i64 0]) 32 Try.underlying36 Try.infoPosting rfl (by decide) cPosting_len cPosting_one w0.heap.size _ ((L.take k).filter (openQ z)) rfl (OwnR.alloc (ho.drew ⟨_, rfl⟩) _) w1.heap.size 1 (f0, f1, f2, f3) rfl (cells_new rfl) hl' (by decide) (by simp; omega) (fun v' w4 ho4 hup => hK _ _ ?_))
          have hb4 := BoxAt.upd (BoxAt.alloc (hb.drew ⟨_, rfl⟩) _) hup (.inl hlb)
          have S4 := ((S1.drewN _).alloc _).upds hup hz0
          have hn4 : w0.heap.size ≤ w4.heap.size := by have := hup.size; simp at this; omega
          go_roundw
          case rel => exact ⟨k + 1, hlt, by go_num, by rw [HF.out]; exact ho4, S4, hn4, hb4⟩
          case measure => simp [intOf]; omega
        · have HF := Lib.hid (filter_take_no HX.out (show openQ z (f0, f1, f2, f3) = false by simp [openQ]; omega))
          go_wp2
          go_quiet (fail)
          go_wp2
          go_roundw
          case rel => exact ⟨k + 1, hlt, by go_num, by rw [HF.out]; exact ho.drew ⟨_, rfl⟩, S1.drewN _, hn, hb.drew ⟨_, rfl⟩⟩
          case measure => simp [intOf]; omega
      · go_wp2
        go_ret
        have hf : (L.take k).filter (openQ z) = L.filter (openQ z) := by rw [show k = L.length by omega, List.take_length]
        rw [hf] at ho
        exact RetR.of (ho.rebase hz0) hs
end Go.Proofs.Ythelclibokkdnaa
