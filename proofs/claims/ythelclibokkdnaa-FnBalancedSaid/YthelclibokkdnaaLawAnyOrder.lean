/-
  FnPostedAnyOrder: for every list of bytes balances do not depend on the order of the postings. No condition.
-/
import Derived.Test.YthelclibokkdnaaDrawLed
import Derived.Test.YthelclibokkdnaaTrial
import Derived.Test.YthelclibokkdnaaPostI
import Derived.Test.YthelclibokkdnaaSameL
import Derived.Deep.RegionHeld3
namespace Go.Proofs.Ythelclibokkdnaa
open Go.RowKit
set_option linter.unusedVariables false

theorem balTo_sum (L : List TPosting) (a m : Int) : ∀ k, k ≤ L.length → balTo L a m k = ((L.take k).map (postAt a m)).sum
  | 0, _ => by simp [balTo]
  | k + 1, hk => by
    obtain ⟨p, hp⟩ : ∃ p, L[k]? = some p := ⟨_, List.getElem?_eq_getElem (by omega)⟩
    rw [balTo_succ hp, balTo_sum L a m k (by omega), List.take_add_one, hp]
    simp
theorem balTo_full (L : List TPosting) (a m : Int) : balTo L a m L.length = (L.map (postAt a m)).sum := by
  rw [balTo_sum L a m _ (Nat.le_refl _), List.take_length]
theorem sum_rev : ∀ l : List Int, l.reverse.sum = l.sum
  | [] => rfl
  | x :: l => by
    rw [List.reverse_cons, List.sum_append, sum_rev l]
    simp
    omega
theorem ledgerOk_rev (L : List TPosting) : ledgerOk L.reverse = ledgerOk L := by simp [ledgerOk]
theorem balance_rev (L : List TPosting) (a m : Int) : balance L.reverse a m = balance L a m := by
  rw [balance, balance, ledgerOk_rev, balTo_full, balTo_full, List.map_reverse, sum_rev]
theorem trial_rev (L : List TPosting) (m : Int) : trial L.reverse m = trial L m := by
  unfold trial trialTo
  rw [ledgerOk_rev]
  simp only [balance_rev]
theorem Small.rev {L : List TPosting} (h : Small L) : Small L.reverse := fun p hp => h p (List.mem_reverse.1 hp)
theorem post_yes {M : List TPosting} {p : TPosting} (h : Small M) (hp : SmallP p) (hl : M.length ≤ 200) : postOk M p = true ∧ postL M p = M ++ [p] := by
  have h1 : postOk M p = true := by
    rw [postOk, h.ok (by omega), (h.push hp).ok (by simp; omega)]
    rfl
  exact ⟨h1, by rw [postL, h1]; rfl⟩
theorem drop_rev {L : List TPosting} {i : Nat} {p : TPosting} (h : L[i]? = some p) : (L.drop (i + 1)).reverse ++ [p] = (L.drop i).reverse := by
  have hi := (List.getElem?_eq_some_iff.1 h).1
  have hp : L[i] = p := by rw [List.getElem?_eq_getElem hi] at h; exact Option.some.inj h
  rw [List.drop_eq_getElem_cons hi, List.reverse_cons, hp]
theorem Small.drop {L : List TPosting} (h : Small L) (i : Nat) : Small (L.drop i).reverse := fun p hp => h p (List.mem_of_mem_drop (List.mem_reverse.1 hp))

set_option maxRecDepth 100000 in
set_option maxHeartbeats 4000000 in
theorem lawAnyOrder (A : Option Addr) (n c : Nat) (w : World) (hn : n ≤ 9223372036854775807) (hA : BytesAt w w.heap.size A n) :
    Calls Try.prog 11 #[.slice A n c] w fun e w' => e = .returned (.bool true) ∧ Same w w' := by
  by_cases hbig : n ≤ 1048576
  · go_enter Try.func11, Try.ntmps11
    go_wp2_with fail
    refine (big_no A n c _ hbig).mono ?_
    rintro e w0 ⟨rfl, rfl⟩
    go_wp2_with fail
    refine (drawLedger_any A n c _ hbig hA).mono ?_
    rintro e w1 ⟨L, A1, c1, rfl, hl, sm, ho1, hs1⟩
    have hb := BoxAt.new w1 38 [.slice A1 L.length c1]
    have al := (Same.refl w1).alloc (.cells #[.slice A1 L.length c1] 38)
    replace ho1 := ho1.same al
    have S1 := hs1.trans al
    clear hs1
    go_wp2_with fail
    generalize w1.alloc (.cells #[.slice A1 L.length c1] 38) = w2 at *
    generalize w1.heap.size = g3 at *
    refine (drawPlaces_any A n c _ hbig (hA.keep' S1)).mono ?_
    rintro e w3 ⟨ps, D, g0, rfl, hpl, ho3, hs3⟩
    obtain ⟨a, ha, ha0, ha1⟩ := hpl.get (k := 0) (by omega)
    obtain ⟨h, rfl, _⟩ := ho3.at_ ha
    have ca := ho3.cell ha
    have hgl := World.block_lt_of_cell? w3 _ ca
    have hl12 : (12 : Int) ≤ (ps.length : Int) := by have := hpl.1; omega
    replace hb := hb.same hs3
    have S3 := S1.trans hs3
    have hR : AtPosting w3 A1 L := (OwnR.recs cPosting_len ho1).same hs3
    obtain ⟨x, hx⟩ : ∃ x, x = a % 70 := ⟨_, rfl⟩
    have HX := Lib.hid hx
    have HSM := Lib.hid sm
    have HPL := Lib.hid ha
    clear ha hpl ho3 hs3 al ho1 S1 hx
    have b0 := (hb.alloc (.cells #[.slice none 0 0] 38)).cell 0 rfl
    go_wp2
    clear b0
    have h5 := BoxAt.new w3 38 [.slice none 0 0]
    have s5 := (Same.refl w3).alloc (.cells #[.slice none 0 0] 38)
    have h3lt := hb.lt
    generalize w3.alloc (.cells #[.slice none 0 0] 38) = w4 at *
    have n4 := h5.lt
    go_loopw [6, 7] (fun t6 t7 wr => ∃ (j : Nat) (M : List TPosting) (A' : Option Addr) (c' : Nat), j ≤ L.length ∧ t7 = .int .i64 ((j : Int) - 1) ∧ t6 = .bool true ∧ Hid (M = (L.drop j).reverse) ∧ BoxAt wr w3.heap.size 38 [.slice A' M.length c'] ∧
      OwnPosting wr (w3.heap.size + 1) (.slice A' M.length c') M ∧ Same w3 wr ∧ w3.heap.size < wr.heap.size) (fun _ t7 _ => (intOf t7 + 1).toNat)
    case atStart => exact ⟨L.length, [], none, 0, Nat.le_refl _, rfl, rfl, by simp [Hid], h5, OwnR.nil _ _ _ _ _, s5, n4⟩
    case round =>
      obtain ⟨j, M, A', c', hj, rfl, rfl, HM, hb5, ho5, hs, nr⟩ := hrel
      clear h5 s5
      have hbr := hb.same hs
      have b0 := hbr.cell 0 rfl
      have b5 := hb5.cell 0 rfl
      have hlM : M.length ≤ 11 := by rw [HM.out]; simp; omega
      rcases j with _ | i
      · have e0 : ((0 : Nat) : Int) - 1 = -1 := rfl
        rw [e0]
        clear e0
        have hM : M = L.reverse := HM.out
        obtain ⟨T, hT⟩ : ∃ T, T = trial L x := ⟨_, rfl⟩
        have hT9 : T.length = 9 := by rw [hT, trial_yes (HSM.out.ok (by omega)), trialTo_length]
        have HB9 : ((T.length : Int) == 9) = true := by rw [hT9]; rfl
        have hTl : T.length ≤ 9223372036854775807 := by omega
        have HI := Lib.hid (fun (w' : World) (hw' : Same wr w') => show Calls Try.prog 39 #[.agg #[.slice A' M.length c'], .int .i64 (a % 70)] w' (RetI w' T) by
          have := iTrial_any A' c' M x w' (by omega) ((OwnR.recs cPosting_len ho5).same hw')
          rw [← HX.out, hT, ← trial_rev, ← hM]
          exact this)
        have HS := Lib.hid (fun (w' : World) (hw' : Same wr w') => show Calls Try.prog 45 #[.agg #[.slice A1 L.length c1], .int .i64 (a % 70)] w' (RetI w' T) by
          have := sTrial_any A1 c1 L x w' (by omega) ((hR.same hs).same hw')
          rw [← HX.out, hT]
          exact this)
        have HK := Lib.hid (fun (w' : World) (hw' : Same wr w') => show Same wr w' ∧ w'.cell? ⟨w3.heap.size, 0, none⟩ = some (.slice A' M.length c') ∧ w'.cell? ⟨g3, 0, none⟩ = some (.slice A1 L.length c1) from
          ⟨hw', (hb5.same hw').cell 0 rfl, (hbr.same hw').cell 0 rfl⟩)
        have cr := (hs.cell (p := ⟨h, 0, none⟩) hgl).trans ca
        clear hT hT9 hM b0 b5
        have hneg : ¬ (0 : Int) ≤ -1 := by omega
        go_wp2
        go_region_held3 (fun w' => Same wr w' ∧ w'.cell? ⟨w3.heap.size, 0, none⟩ = some (.slice A' M.length c') ∧ w'.cell? ⟨g3, 0, none⟩ = some (.slice A1 L.length c1))
          (first | exact HK.out _ (Same.refl _).drew | (go_split_ands; exact HK.out _ (Same.trans (by assumption) hs7)) | (go_split_ands; exact HK.out _ (Same.trans (by assumption) hs8)) | (go_split_ands; exact HK.out _ (Same.trans (by assumption) hd9.same)))
          (first
            | (go_split_ands; go_at_call 39; refine (HI.out _ (by assumption)).mono ?_; rintro e w7 ⟨B1, e1, rfl, ho7, hs7⟩)
            | (go_split_ands; go_at_call 45; refine (HS.out _ (by assumption)).mono ?_; rintro e w8 ⟨B2, e2, rfl, ho8, hs8⟩)
            | (go_split_ands; go_at_call 41; refine (sameInts_any _ _ _ _ T T _ hTl hTl (IntsAt.same (OwnI.ints ho7) (by first | exact Same.refl _ | exact hs8)) (IntsAt.same (OwnI.ints ho8) (by first | exact Same.refl _ | exact hs7))).mono ?_; rintro e w9 ⟨rfl, hd9⟩; rw [show (decide (T = T)) = true by simp]))
        all_goals
          go_split_ands
          go_wp2
          go_ret
          exact ⟨rfl, (S3.trans hs).trans (by assumption)⟩
      · have e0 : ((i + 1 : Nat) : Int) - 1 = i := by omega
        rw [e0]
        clear e0
        have hlt : i < L.length := by omega
        have q0 : (0 : Int) ≤ (i : Int) := by omega
        have q1 : (i : Int) < (L.length : Int) := by omega
        obtain ⟨b, off, p, rfl, hc, HP, hbl⟩ := (hR.same hs).at_ hlt
        have hsp := HSM.out p (List.mem_of_getElem? HP.out)
        have hMs : Small M := by rw [HM.out]; exact HSM.out.drop _
        have hpo := post_yes hMs hsp (by omega)
        have hdr : M ++ [p] = (L.drop i).reverse := by rw [HM.out]; exact drop_rev HP.out
        obtain ⟨M2, hM2⟩ : ∃ M2, M2 = M ++ [p] := ⟨_, rfl⟩
        rw [← hM2] at hpo hdr
        have hl2 : M2.length = M.length + 1 := by rw [hM2]; simp
        have HL2 := Lib.hid hl2
        have HM2 := Lib.hid hdr
        obtain ⟨f0, f1, f2, f3⟩ := p
        have y0 := hc 0 _ rfl
        have y1 := hc 1 _ rfl
        have y2 := hc 2 _ rfl
        have y3 := hc 3 _ rfl
        simp only [Nat.add_zero] at y0
        clear hc
        have hm0 : ∀ w', Same wr w' → Calls Try.prog 40 #[.agg #[.slice A' M.length c'], .agg #[.int .i64 f0, .int .i64 f1, .int .i64 f2, .int .i64 f3]] w' (RetLedgerX w' M2 (.bool true)) := fun w' hw' => by
          have := iPost_any A' c' M f0 f1 f2 f3 w' (by omega) ((OwnR.recs cPosting_len ho5).same hw')
          rw [hpo.1, hpo.2] at this
          exact this
        have HC := Lib.hid hm0
        have hk0 : ∀ w', Same wr w' → Same wr w' ∧ w'.cell? ⟨w3.heap.size, 0, none⟩ = some (.slice A' M.length c') ∧ w'.cell? ⟨g3, 0, none⟩ = some (.slice (some ⟨b, off, none⟩) L.length c1) ∧ w'.cell? ⟨b, off + i * 4, none⟩ = some (.int .i64 f0) ∧
            w'.cell? ⟨b, off + i * 4 + 1, none⟩ = some (.int .i64 f1) ∧ w'.cell? ⟨b, off + i * 4 + 2, none⟩ = some (.int .i64 f2) ∧ w'.cell? ⟨b, off + i * 4 + 3, none⟩ = some (.int .i64 f3) := fun w' hw' =>
          ⟨hw', (hb5.same hw').cell 0 rfl, (hbr.same hw').cell 0 rfl, (hw'.cell hbl).trans y0, (hw'.cell hbl).trans y1, (hw'.cell hbl).trans y2, (hw'.cell hbl).trans y3⟩
        have HK := Lib.hid hk0
        clear hm0 hk0 hpo hdr hM2 hl2 hsp hMs
        go_wp2
        go_region_held3 (fun w' => Same wr w' ∧ w'.cell? ⟨w3.heap.size, 0, none⟩ = some (.slice A' M.length c') ∧ w'.cell? ⟨g3, 0, none⟩ = some (.slice (some ⟨b, off, none⟩) L.length c1) ∧ w'.cell? ⟨b, off + i * 4, none⟩ = some (.int .i64 f0) ∧
            w'.cell? ⟨b, off + i * 4 + 1, none⟩ = some (.int .i64 f1) ∧ w'.cell? ⟨b, off + i * 4 + 2, none⟩ = some (.int .i64 f2) ∧ w'.cell? ⟨b, off + i * 4 + 3, none⟩ = some (.int .i64 f3))
          (first | exact HK.out _ (Same.refl _).drew | exact HK.out _ S5 | exact HK.out _ (S5.alloc _) | exact HK.out _ (S5.setCell (Nat.le_refl _) _) | (go_split_ands; exact HK.out _ (Same.alloc (by assumption) _)))
          ((go_split_ands; go_at_call 40; refine (HC.out _ (by assumption)).mono ?_; rintro e w5 ⟨A5, c5, rfl, ho6, hs5⟩; (have S5 := Same.trans (show Same wr _ by assumption) hs5); try ((have hb8 : BoxAt w5 wr.heap.size 38 [.slice none 0 0] := (BoxAt.new wr.drew 38 [.slice none 0 0]).same hs5); (have q8 := hb8.cell 0 rfl); (have f8 := hb8.frozen 0))))
        all_goals
          have zo6 := OwnR.zn ho6
          have n6 := Same.size (show Same wr _ by assumption)
          have n5 := hs5.size
          first
            | ((have k8 := hb8.set 0 (.slice A5 M2.length c5)); (have S8 : Same wr (w5.setCell ⟨wr.heap.size, 0, none⟩ (.slice A5 M2.length c5)) := S5.setCell (Nat.le_refl _) _); (have o8 : OwnPosting (w5.setCell ⟨wr.heap.size, 0, none⟩ (.slice A5 M2.length c5)) (w3.heap.size + 1) (.slice A5 M2.length c5) M2 := OwnR.rebase (OwnR.upd ho6 (upd_setCell _ _ _ _) zo6 (.inr (by simp))) (by simp; omega)); generalize w5.setCell ⟨wr.heap.size, 0, none⟩ (.slice A5 M2.length c5) = w6 at *)
            | ((have k8 := BoxAt.new w5 38 [.slice A5 M2.length c5]); (have S8 : Same wr (w5.alloc (.cells #[.slice A5 M2.length c5] 38)) := S5.alloc _); (have o8 : OwnPosting (w5.alloc (.cells #[.slice A5 M2.length c5] 38)) (w3.heap.size + 1) (.slice A5 M2.length c5) M2 := OwnR.rebase (OwnR.alloc ho6 _) (by simp; omega)); generalize w5.alloc (.cells #[.slice A5 M2.length c5] 38) = w6 at *)
          have c8 := k8.cell 0 rfl
          have hb6 := hb5.same S8
          have c6 := hb6.cell 0 rfl
          have f6 := hb6.frozen 0
          have n8 := S8.size
          have zo8 := OwnR.zn o8
          go_split_ands
          go_wp2
          go_roundw
          case rel => exact ⟨i, M2, A5, c5, by omega, rfl, rfl, HM2.out, hb6.set 0 _, OwnR.upd o8 (upd_setCell _ _ _ _) zo8 (.inr (by omega)), (hs.trans S8).setCell (Nat.le_refl _) _, by simp; omega⟩
          case measure => simp [intOf]
  · go_enter Try.func11, Try.ntmps11
    go_wp2_with (go_at_call 34; refine (big_yes A n c _ hn hbig).mono ?_; rintro e w' ⟨rfl, rfl⟩)
    go_ret
    exact ⟨rfl, Same.refl _⟩
end Go.Proofs.Ythelclibokkdnaa
