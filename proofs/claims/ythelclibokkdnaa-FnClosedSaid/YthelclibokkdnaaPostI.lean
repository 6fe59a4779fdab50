/-
  The program's Post.
-/
import Derived.Test.YthelclibokkdnaaPostInv
import Derived.Deep.Cut
import Derived.Deep.CutRange
namespace Go.Proofs.Ythelclibokkdnaa
open Go.RowKit
set_option linter.unusedVariables false
set_option linter.unnecessarySimpa false

set_option maxRecDepth 100000 in
set_option maxHeartbeats 4000000 in
theorem iPost_any (A : Option Addr) (c : Nat) (L : List TPosting) (m d k z : Int) (w : World) (hz : L.length ≤ 900000000) (hA : AtPosting w A L) :
    Calls Try.prog 40 #[.agg #[.slice A L.length c], .agg #[.int .i64 m, .int .i64 d, .int .i64 k, .int .i64 z]] w (RetLedgerX w (postL L (m, d, k, z)) (.bool (postOk L (m, d, k, z)))) := by
  obtain ⟨M, hM⟩ : ∃ M, M = L ++ [(m, d, k, z)] := ⟨_, rfl⟩
  have hlM : M.length ≤ 900000001 := by rw [hM]; simp; omega
  have HM := Lib.hid hM
  clear hM
  go_enter Try.func40, Try.ntmps40
  go_upto_region 1 with (fail)
  have h1 : BoxAt (((w.alloc (.cells #[.slice A L.length c] 38)).alloc (.cells #[.int .i64 m, .int .i64 d, .int .i64 k, .int .i64 z] 25)).alloc (.cells #[.slice none 0 0] 38)) (w.heap.size) 38 [.slice A L.length c] := by simpa using (BoxAt.alloc (BoxAt.alloc (BoxAt.new w 38 [.slice A L.length c]) (.cells #[.int .i64 m, .int .i64 d, .int .i64 k, .int .i64 z] 25)) (.cells #[.slice none 0 0] 38))
  have h3 : BoxAt (((w.alloc (.cells #[.slice A L.length c] 38)).alloc (.cells #[.int .i64 m, .int .i64 d, .int .i64 k, .int .i64 z] 25)).alloc (.cells #[.slice none 0 0] 38)) (w.heap.size + 1) 25 [.int .i64 m, .int .i64 d, .int .i64 k, .int .i64 z] := by simpa using (BoxAt.alloc (BoxAt.new (w.alloc (.cells #[.slice A L.length c] 38)) 25 [.int .i64 m, .int .i64 d, .int .i64 k, .int .i64 z]) (.cells #[.slice none 0 0] 38))
  have h2 : BoxAt (((w.alloc (.cells #[.slice A L.length c] 38)).alloc (.cells #[.int .i64 m, .int .i64 d, .int .i64 k, .int .i64 z] 25)).alloc (.cells #[.slice none 0 0] 38)) (w.heap.size + 1 + 1) 38 [.slice none 0 0] := by simpa using (BoxAt.new ((w.alloc (.cells #[.slice A L.length c] 38)).alloc (.cells #[.int .i64 m, .int .i64 d, .int .i64 k, .int .i64 z] 25)) 38 [.slice none 0 0])
  have hs0 := (Same.alloc (Same.alloc (Same.alloc (Same.refl w) (.cells #[.slice A L.length c] 38)) (.cells #[.int .i64 m, .int .i64 d, .int .i64 k, .int .i64 z] 25)) (.cells #[.slice none 0 0] 38))
  generalize (((w.alloc (.cells #[.slice A L.length c] 38)).alloc (.cells #[.int .i64 m, .int .i64 d, .int .i64 k, .int .i64 z] 25)).alloc (.cells #[.slice none 0 0] 38)) = w0 at *
  have n0 := hs0.size
  have n2 := h2.lt
  have hA0 := hA.same hs0
  go_cut [6] from 7 to 13 (fun t6 wx => ∃ (g : Nat) (A4 : Option Addr) (c4 : Nat), t6 = .pointer (some ⟨g, 0, none⟩) ∧ BoxAt wx g 38 [.slice A4 M.length c4] ∧ OwnPosting wx w0.heap.size (.slice A4 M.length c4) M ∧ w0.heap.size ≤ g ∧ Same w0 wx)
  case first =>
    refine wp_region_fill [6, 7, 8, 9, 10, 11, 12, 13] (by kernel_rfl) (by kernel_rfl) (PostInv w0 w.heap.size A c L (m, d, k, z) M) ?_ ?_ ?_
    · exact PostInv.start (Same.refl w0).drew
    · refine ⟨⟨by rfl, ?_⟩, ⟨by rfl, ?_⟩, ⟨by rfl, ?_⟩, ⟨by rfl, ?_⟩, ⟨by rfl, ?_⟩, ⟨by rfl, ?_⟩, ⟨by rfl, ?_⟩, ⟨by rfl, ?_⟩, ⟨by rfl, ?_⟩, trivial⟩
      all_goals intro l t w1 K' hK i hl hd
      all_goals simp [Region.binds] at hd
      all_goals simp only [fill, List.foldl, Act.put, List.setIfInBounds_toArray, List.set_cons_zero, List.set_cons_succ]
      · go_simp
        have H := hK _ _ (i.s0 hl)
        simp only [fill, List.foldl, Act.put, List.setIfInBounds_toArray, List.set_cons_zero, List.set_cons_succ, updT, Nat.reduceEqDiff, reduceIte] at H
        exact H
      · have e := i.a7 hd
        have b0 := (h1.same i.same).cell 0 rfl
        go_simp
        have H := hK _ _ (i.s1 hl)
        simp only [fill, List.foldl, Act.put, List.setIfInBounds_toArray, List.set_cons_zero, List.set_cons_succ, updT, Nat.reduceEqDiff, reduceIte, e] at H
        exact H
      · have e := i.a8 hd
        go_simp
        go_at_call 73
        refine (clonePosting_any A c L _ (by omega) (hA0.same i.same)).mono ?_
        rintro e w2 ⟨A2, c2, rfl, ho, hs2⟩
        have H := hK _ _ (i.s2 hl ho hs2)
        simp only [fill, List.foldl, Act.put, List.setIfInBounds_toArray, List.set_cons_zero, List.set_cons_succ, updT, Nat.reduceEqDiff, reduceIte, e] at H
        dsimp only
        exact H
      · have b0 := (h3.same i.same).cell 0 rfl
        have b1 := (h3.same i.same).cell 1 rfl
        have b2 := (h3.same i.same).cell 2 rfl
        have b3 := (h3.same i.same).cell 3 rfl
        go_simp
        have H := hK _ _ (i.s3 hl)
        simp only [fill, List.foldl, Act.put, List.setIfInBounds_toArray, List.set_cons_zero, List.set_cons_succ, updT, Nat.reduceEqDiff, reduceIte] at H
        exact H
      · have e := i.a10 hd
        go_simp
        have H := hK _ _ (i.s4 hl)
        simp only [fill, List.foldl, Act.put, List.setIfInBounds_toArray, List.set_cons_zero, List.set_cons_succ, updT, Nat.reduceEqDiff, reduceIte, e] at H
        exact H
      · obtain ⟨hdr, hdb⟩ : _ ∧ _ := ⟨hd.1, hd.2.1⟩
        obtain ⟨g, p1, p2, p3⟩ := i.bP hdb hl
        refine wp_onePosting _ (.tmp 9) (.tmp 11) rfl w0.heap.size (t 9) L rfl (i.row2 hdr hl) g 1 (m, d, k, z) p1 (fun j u hj => p2.cell j hj) (by omega) p2.lt i.same.size (fun v' w2 ho hg hf => ?_)
        rw [← HM.out] at ho
        have H := hK _ _ (i.s5 hl hdr ho hg hf)
        simp only [fill, List.foldl, Act.put, List.setIfInBounds_toArray, List.set_cons_zero, List.set_cons_succ, updT, Nat.reduceEqDiff, reduceIte, p1] at H
        simp only [Act.put, List.setIfInBounds_toArray, List.set_cons_zero, List.set_cons_succ, p1]
        exact H
      · have hd5 : l 5 = true := by first | exact hd | exact hd.1
        obtain ⟨A3, c3, e3⟩ := (i.row5 hd5).form
        go_simp
        have H := hK _ _ (i.s6 hl hd5)
        simp only [fill, List.foldl, Act.put, List.setIfInBounds_toArray, List.set_cons_zero, List.set_cons_succ, updT, Nat.reduceEqDiff, reduceIte, e3] at H
        exact H
      · go_simp
        have H := hK _ _ (i.s7 hl)
        simp only [fill, List.foldl, Act.put, List.setIfInBounds_toArray, List.set_cons_zero, List.set_cons_succ, updT, Nat.reduceEqDiff, reduceIte] at H
        exact H
      · obtain ⟨hd7, hd6, _⟩ := hd
        have e := i.a13 hd6
        obtain ⟨g, p1, p2, p3, p4⟩ := i.bk hd7
        rw [show l 8 = false from hl] at p3
        have f0 := p3.frozen 0
        have b0 := p3.cell 0 rfl
        obtain ⟨A3, c3, e3⟩ := (i.row5 (i.d6 hd6)).form
        go_simp
        have H := hK _ _ (i.s8 hl hd6 hd7 p1)
        simp only [fill, List.foldl, Act.put, List.setIfInBounds_toArray, List.set_cons_zero, List.set_cons_succ, e, e3, p1] at H
        exact H
    · intro l t w1 hl i
      have H := i.fin hl
      simp only [fill, List.foldl, Act.put, List.setIfInBounds_toArray, List.set_cons_zero, List.set_cons_succ]
      generalize t 6 = t6 at H ⊢
      clear i hl
      go_wp2_with fail
      go_meet
      exact H
  case rest =>
    obtain ⟨g, A4, c4, rfl, k5, o5, hg0, S5⟩ := hcut
    have b10 := (h1.same S5).cell 0 rfl
    cases m1 : ledgerOk L
    · go_wp2_with fail
      refine (iLedgerOk_any A c L _ (by omega) (hA.same (hs0.trans S5))).mono ?_
      rintro e w6 ⟨rfl, hs6⟩
      rw [m1]
      have S6 := S5.trans hs6
      have HO := Lib.hid (show postOk L (m, d, k, z) = false by rw [postOk, m1]; rfl)
      have HN := Lib.hid (show postL L (m, d, k, z) = L by rw [postL, HO.out]; rfl)
      have e10 := (h1.same S6).cell 0 rfl
      go_wp2_with fail
      refine (copyLedger_any A c L _ (by omega) (hA.same (hs0.trans S6))).mono ?_
      rintro e wz ⟨Az, cz, rfl, hoz, hsz⟩
      have hlz := (h2.same S6).lt
      have kz := (h2.same S6).same hsz
      have cz0 := kz.cell 0 rfl
      have fz0 := kz.frozen 0
      have xz := (kz.set 0 (.slice Az L.length cz)).cell 0 rfl
      have zo := hoz.zn
      have nz := S6.size
      go_wp2
      refine bodyPost_ret (v := .tuple #[.agg #[.slice Az L.length cz], .bool false]) (by simp [results, Try.results40, go_sem, xz]) rfl ?_
      show RetLedgerX w (postL L (m, d, k, z)) (.bool (postOk L (m, d, k, z))) _ _
      rw [HN.out, HO.out]
      exact ⟨Az, cz, rfl, ((hoz.rebase (by omega)).upd (upd_setCell _ _ _ _) zo (.inr (by omega))), ((hs0.trans S6).trans hsz).setCell (by simp; omega) _⟩
    · go_wp2_with fail
      refine (iLedgerOk_any A c L _ (by omega) (hA.same (hs0.trans S5))).mono ?_
      rintro e w6 ⟨rfl, hs6⟩
      rw [m1]
      have S6 := S5.trans hs6
      have k6 := k5.same hs6
      have c60 := k6.cell 0 rfl
      have o6 := o5.same hs6
      go_wp2_with fail
      refine (iLedgerOk_any A4 c4 M _ (by omega) (OwnR.recs cPosting_len o6)).mono ?_
      rintro e w7 ⟨rfl, hs7⟩
      have S7 := S6.trans hs7
      have o7 := o6.same hs7
      have k7 := k6.same hs7
      cases m2 : ledgerOk M
      · skip
        have HO := Lib.hid (show postOk L (m, d, k, z) = false by rw [postOk, m1, ← HM.out, m2]; rfl)
        have HN := Lib.hid (show postL L (m, d, k, z) = L by rw [postL, HO.out]; rfl)
        have e10 := (h1.same S7).cell 0 rfl
        go_wp2_with fail
        refine (copyLedger_any A c L _ (by omega) (hA.same (hs0.trans S7))).mono ?_
        rintro e wz ⟨Az, cz, rfl, hoz, hsz⟩
        have hlz := (h2.same S7).lt
        have kz := (h2.same S7).same hsz
        have cz0 := kz.cell 0 rfl
        have fz0 := kz.frozen 0
        have xz := (kz.set 0 (.slice Az L.length cz)).cell 0 rfl
        have zo := hoz.zn
        have nz := S7.size
        go_wp2
        refine bodyPost_ret (v := .tuple #[.agg #[.slice Az L.length cz], .bool false]) (by simp [results, Try.results40, go_sem, xz]) rfl ?_
        show RetLedgerX w (postL L (m, d, k, z)) (.bool (postOk L (m, d, k, z))) _ _
        rw [HN.out, HO.out]
        exact ⟨Az, cz, rfl, ((hoz.rebase (by omega)).upd (upd_setCell _ _ _ _) zo (.inr (by omega))), ((hs0.trans S7).trans hsz).setCell (by simp; omega) _⟩
      · have HO := Lib.hid (show postOk L (m, d, k, z) = true by rw [postOk, m1, ← HM.out, m2]; rfl)
        have HN := Lib.hid (show postL L (m, d, k, z) = M by rw [postL, HO.out, HM.out]; rfl)
        have c70 := k7.cell 0 rfl
        have hlz := (h2.same S7).lt
        have kz := (h2.same S7)
        have cz0 := kz.cell 0 rfl
        have fz0 := kz.frozen 0
        have xz := (kz.set 0 (.slice A4 M.length c4)).cell 0 rfl
        have zo := o7.zn
        have nz := S7.size
        go_wp2
        refine bodyPost_ret (v := .tuple #[.agg #[.slice A4 M.length c4], .bool true]) (by simp [results, Try.results40, go_sem, xz]) rfl ?_
        show RetLedgerX w (postL L (m, d, k, z)) (.bool (postOk L (m, d, k, z))) _ _
        rw [HN.out, HO.out]
        exact ⟨A4, c4, rfl, ((o7.rebase (by omega)).upd (upd_setCell _ _ _ _) zo (.inr (by omega))), (hs0.trans S7).setCell (by simp; omega) _⟩
end Go.Proofs.Ythelclibokkdnaa
