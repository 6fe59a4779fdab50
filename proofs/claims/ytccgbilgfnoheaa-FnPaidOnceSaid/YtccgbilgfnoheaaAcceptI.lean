/-
  The program's Accept.
-/
import Derived.Test.YtccgbilgfnoheaaAccInv
import Derived.Deep.Cut
import Derived.Deep.CutRange
namespace Go.Proofs.Ytccgbilgfnoheaa
open Go.RowKit
set_option linter.unusedVariables false
set_option linter.unnecessarySimpa false

set_option maxRecDepth 100000 in
set_option maxHeartbeats 4000000 in
theorem iAccept_any (A : Option Addr) (c : Nat) (K : List Int) (B : Option Addr) (d : Nat) (C : List Int) (key cents : Int) (w : World) (hz : K.length ≤ 900000000) (hwK : Wide K) (hwk : Wide [key]) (hA : IntsAt w A K) (hz' : C.length ≤ 900000000) (hB : IntsAt w B C) :
    Calls Try.prog 40 #[.agg #[.slice A K.length c, .slice B C.length d], .int .i64 key, .int .i64 cents] w (RetBankX w (accK K C key cents) (accC K C key cents) (.bool (accOk K C key cents))) := by
  go_enter Try.func40, Try.ntmps40
  obtain ⟨K3, hK3⟩ : ∃ K3, K3 = K ++ [key] := ⟨_, rfl⟩
  obtain ⟨C3, hC3⟩ : ∃ C3, C3 = C ++ [cents] := ⟨_, rfl⟩
  have hlK3 : K3.length ≤ 900000001 := by rw [hK3]; simp; omega
  have hlC3 : C3.length ≤ 900000001 := by rw [hC3]; simp; omega
  have HK3 := Lib.hid hK3
  have HC3 := Lib.hid hC3
  clear hK3 hC3
  go_upto_region 1 with (fail)
  have h1 : BoxAt ((w.alloc (.cells #[.slice A K.length c, .slice B C.length d] 29)).alloc (.cells #[.slice none 0 0, .slice none 0 0] 29)) (w.heap.size) 29 [.slice A K.length c, .slice B C.length d] := by simpa using (BoxAt.alloc (BoxAt.new w 29 [.slice A K.length c, .slice B C.length d]) (.cells #[.slice none 0 0, .slice none 0 0] 29))
  have h2 : BoxAt ((w.alloc (.cells #[.slice A K.length c, .slice B C.length d] 29)).alloc (.cells #[.slice none 0 0, .slice none 0 0] 29)) (w.heap.size + 1) 29 [.slice none 0 0, .slice none 0 0] := by simpa using (BoxAt.new (w.alloc (.cells #[.slice A K.length c, .slice B C.length d] 29)) 29 [.slice none 0 0, .slice none 0 0])
  have hs0 := (Same.alloc (Same.alloc (Same.refl w) (.cells #[.slice A K.length c, .slice B C.length d] 29)) (.cells #[.slice none 0 0, .slice none 0 0] 29))
  generalize ((w.alloc (.cells #[.slice A K.length c, .slice B C.length d] 29)).alloc (.cells #[.slice none 0 0, .slice none 0 0] 29)) = w0 at *
  have n0 := hs0.size
  have hA0 := hA.same hs0
  have hB0 := hB.same hs0
  go_cut [8] from 9 to 21 (fun t8 wx => ∃ (g : Nat) (A3 : Option Addr) (c3 : Nat) (A4 : Option Addr) (c4 : Nat), t8 = .pointer (some ⟨g, 0, none⟩) ∧ BankAt wx g w0.heap.size A3 c3 K3 A4 c4 C3 ∧ w0.heap.size ≤ g ∧ Same w0 wx)
  case first =>
    refine wp_region_fill [8, 9, 10, 11, 12, 13, 14, 15, 16, 17, 18, 19, 20, 21] (by kernel_rfl) (by kernel_rfl) (AccInv w0 w.heap.size A c K B d C key cents K3 C3) ?_ ?_ ?_
    · exact AccInv.start (Same.refl w0).drew
    · refine ⟨⟨by rfl, ?_⟩, ⟨by rfl, ?_⟩, ⟨by rfl, ?_⟩, ⟨by rfl, ?_⟩, ⟨by rfl, ?_⟩, ⟨by rfl, ?_⟩, ⟨by rfl, ?_⟩, ⟨by rfl, ?_⟩, ⟨by rfl, ?_⟩, ⟨by rfl, ?_⟩, ⟨by rfl, ?_⟩, ⟨by rfl, ?_⟩, ⟨by rfl, ?_⟩, ⟨by rfl, ?_⟩, ⟨by rfl, ?_⟩, trivial⟩
      all_goals intro l t w1 K' hK i hl hd
      all_goals simp [Region.binds] at hd
      all_goals simp only [fill, List.foldl, Act.put, List.setIfInBounds_toArray, List.set_cons_zero, List.set_cons_succ]
      · go_simp
        have H := hK _ _ (i.s0 hl)
        simp only [fill, List.foldl, Act.put, List.setIfInBounds_toArray, List.set_cons_zero, List.set_cons_succ, updT, Nat.reduceEqDiff, reduceIte] at H
        exact H
      · have e := i.a9 hd
        have b0 := (h1.same i.same).cell 0 rfl
        go_simp
        have H := hK _ _ (i.s1 hl)
        simp only [fill, List.foldl, Act.put, List.setIfInBounds_toArray, List.set_cons_zero, List.set_cons_succ, updT, Nat.reduceEqDiff, reduceIte, e] at H
        exact H
      · have e := i.a10 hd
        go_simp
        go_at_call 73
        refine (cloneI_any A c K _ (by omega) (hA0.same i.same)).mono ?_
        rintro e w2 ⟨A2, c2, rfl, ho, hs2⟩
        have H := hK _ _ (i.s2 hl ho hs2)
        simp only [fill, List.foldl, Act.put, List.setIfInBounds_toArray, List.set_cons_zero, List.set_cons_succ, updT, Nat.reduceEqDiff, reduceIte, e] at H
        dsimp only
        exact H
      · go_simp
        have H := hK _ _ (i.s3 hl)
        simp only [fill, List.foldl, Act.put, List.setIfInBounds_toArray, List.set_cons_zero, List.set_cons_succ, updT, Nat.reduceEqDiff, reduceIte] at H
        exact H
      · have e := i.a12 hd
        go_simp
        have H := hK _ _ (i.s4 hl)
        simp only [fill, List.foldl, Act.put, List.setIfInBounds_toArray, List.set_cons_zero, List.set_cons_succ, updT, Nat.reduceEqDiff, reduceIte, e] at H
        exact H
      · obtain ⟨hdr, hdb⟩ : _ ∧ _ := ⟨hd.1, hd.2.1⟩
        obtain ⟨g, p1, p2, p3, p4⟩ := i.bK hdb hl
        refine wp_oneI _ (.tmp 11) (.tmp 13) rfl w0.heap.size (t 11) K rfl (i.row2 hdr hl) g 1 key p1 (p2.cell 0 rfl) (by omega) p2.lt i.same.size (fun v' w2 ho hg hf => ?_)
        rw [← HK3.out] at ho
        have H := hK _ _ (i.s5 hl hdr ho hg hf)
        simp only [fill, List.foldl, Act.put, List.setIfInBounds_toArray, List.set_cons_zero, List.set_cons_succ, updT, Nat.reduceEqDiff, reduceIte, p1] at H
        simp only [Act.put, List.setIfInBounds_toArray, List.set_cons_zero, List.set_cons_succ, p1]
        exact H
      · go_simp
        have H := hK _ _ (i.s6 hl)
        simp only [fill, List.foldl, Act.put, List.setIfInBounds_toArray, List.set_cons_zero, List.set_cons_succ, updT, Nat.reduceEqDiff, reduceIte] at H
        exact H
      · have e := i.a15 hd
        have b0 := (h1.same i.same).cell 1 rfl
        go_simp
        have H := hK _ _ (i.s7 hl)
        simp only [fill, List.foldl, Act.put, List.setIfInBounds_toArray, List.set_cons_zero, List.set_cons_succ, updT, Nat.reduceEqDiff, reduceIte, e] at H
        exact H
      · have e := i.a16 hd.1
        go_simp
        go_at_call 73
        refine (cloneI_any B d C _ (by omega) (hB0.same i.same)).mono ?_
        rintro e w2 ⟨A2, c2, rfl, ho, hs2⟩
        have H := hK _ _ (i.s8 hl ho hs2)
        simp only [fill, List.foldl, Act.put, List.setIfInBounds_toArray, List.set_cons_zero, List.set_cons_succ, updT, Nat.reduceEqDiff, reduceIte, e] at H
        dsimp only
        exact H
      · go_simp
        have H := hK _ _ (i.s9 hl)
        simp only [fill, List.foldl, Act.put, List.setIfInBounds_toArray, List.set_cons_zero, List.set_cons_succ, updT, Nat.reduceEqDiff, reduceIte] at H
        exact H
      · have e := i.a18 hd
        go_simp
        have H := hK _ _ (i.s10 hl)
        simp only [fill, List.foldl, Act.put, List.setIfInBounds_toArray, List.set_cons_zero, List.set_cons_succ, updT, Nat.reduceEqDiff, reduceIte, e] at H
        exact H
      · obtain ⟨hdr, hdb⟩ : _ ∧ _ := ⟨hd.1, hd.2.1⟩
        obtain ⟨g, p1, p2, p3, p4⟩ := i.bC hdb hl
        refine wp_oneI _ (.tmp 17) (.tmp 19) rfl w0.heap.size (t 17) C rfl (i.row8 hdr hl) g 1 cents p1 (p2.cell 0 rfl) (by omega) p2.lt i.same.size (fun v' w2 ho hg hf => ?_)
        rw [← HC3.out] at ho
        have H := hK _ _ (i.s11 hl hdr ho hg hf)
        simp only [fill, List.foldl, Act.put, List.setIfInBounds_toArray, List.set_cons_zero, List.set_cons_succ, updT, Nat.reduceEqDiff, reduceIte, p1] at H
        simp only [Act.put, List.setIfInBounds_toArray, List.set_cons_zero, List.set_cons_succ, p1]
        exact H
      · obtain ⟨hd5, hd11⟩ := hd
        obtain ⟨A3, c3, e3⟩ := (i.row5 hd5).form
        obtain ⟨A4, c4, e4⟩ := (i.row11 hd11).form
        go_simp
        have H := hK _ _ (i.s12 hl hd5 hd11)
        simp only [fill, List.foldl, Act.put, List.setIfInBounds_toArray, List.set_cons_zero, List.set_cons_succ, updT, Nat.reduceEqDiff, reduceIte, e3, e4] at H
        exact H
      · go_simp
        have H := hK _ _ (i.s13 hl)
        simp only [fill, List.foldl, Act.put, List.setIfInBounds_toArray, List.set_cons_zero, List.set_cons_succ, updT, Nat.reduceEqDiff, reduceIte] at H
        exact H
      · obtain ⟨hd13, hd12, _⟩ := hd
        have e := i.a21 hd12
        obtain ⟨g, p1, p2, p3, p4, p5⟩ := i.bk hd13
        rw [show l 14 = false from hl] at p3
        have f0 := p3.frozen 0
        have f1 := p3.frozen 1
        have b0 := p3.cell 0 rfl
        have b1 := p3.cell 1 rfl
        obtain ⟨A3, c3, e3⟩ := (i.row5 (i.d12 hd12).1).form
        obtain ⟨A4, c4, e4⟩ := (i.row11 (i.d12 hd12).2).form
        go_simp
        have H := hK _ _ (i.s14 hl hd12 hd13 p1)
        simp only [fill, List.foldl, Act.put, List.setIfInBounds_toArray, List.set_cons_zero, List.set_cons_succ, e, e3, e4, p1] at H
        exact H
    · intro l t w1 hl i
      have H := i.fin hl
      simp only [fill, List.foldl, Act.put, List.setIfInBounds_toArray, List.set_cons_zero, List.set_cons_succ]
      generalize t 8 = t8 at H ⊢
      clear i hl
      go_wp2_with fail
      go_meet
      exact H
  case rest =>
    obtain ⟨g, A3, c3, A4, c4, rfl, hb4, hg0, S4⟩ := hcut
    have HWK := Lib.hid hwK
    have HW3 := Lib.hid (show Wide K3 by
      rw [HK3.out]; intro x hx
      rcases List.mem_append.1 hx with h | h
      · exact hwK x h
      · exact hwk x h)
    clear hwK hwk
    have e10 := (h1.same S4).cell 0 rfl
    have e11 := (h1.same S4).cell 1 rfl
    go_wp2_with fail
    refine (contains_any A c K key _ (by omega) (hA0.same S4)).mono ?_
    rintro e w6 ⟨rfl, hs6⟩
    replace hb4 := hb4.same hs6
    replace S4 := S4.trans hs6
    clear hs6 e10 e11
    cases m1 : hasK K key
    · have e10 := (h1.same S4).cell 0 rfl
      have e11 := (h1.same S4).cell 1 rfl
      go_wp2_with fail
      refine (iBankOk_any A B c d K C _ (by omega) (by omega) HWK.out (hA0.same S4) (hB0.same S4)).mono ?_
      rintro e w7 ⟨rfl, hs7⟩
      replace hb4 := hb4.same hs7
      replace S4 := S4.trans hs7
      clear hs7 e10 e11
      cases m2 : bankOk K C
      · have HO := show accOk K C key cents = false by rw [accOk, m1, m2]; rfl
        have HN := Lib.hid (acc_no HO)
        replace HO := Lib.hid HO
        have e10 := (h1.same S4).cell 0 rfl
        have e11 := (h1.same S4).cell 1 rfl
        go_wp2_with fail
        refine (copyBank_any A c K B d C _ (by omega) (hA0.same S4) (by omega) (hB0.same S4)).mono ?_
        rintro e w9 ⟨A9, c9, B9, d9, rfl, ho9, hc9, sp9, hs9⟩
        have S9 := Same.trans S4 hs9
        have m9 := Same.size S4
        have k9 := h2.same S9
        have k90 := k9.cell 0 rfl
        have k91 := k9.cell 1 rfl
        have f90 := k9.frozen 0
        have f91 := k9.frozen 1
        have kk := (k9.set 0 (.slice A9 K.length c9)).set 1 (.slice B9 C.length d9)
        have cf0 := kk.cell 0 rfl
        have cf1 := kk.cell 1 rfl
        have l2 := h2.lt
        have nk9 : (Value.slice A9 K.length c9).ownBlock ≠ some (w.heap.size + 1) := fun e' => by have := (owns_new ho9 _ e').1; omega
        have nc9 : (Value.slice B9 C.length d9).ownBlock ≠ some (w.heap.size + 1) := fun e' => by have := (owns_new hc9 _ e').1; omega
        go_wp2
        refine bodyPost_ret (v := .tuple #[.agg #[.slice A9 K.length c9, .slice B9 C.length d9], .bool false]) (by simp [results, Try.results40, go_sem, cf0, cf1]) rfl ?_
        show RetBankX _ _ _ _ _ _
        rw [RetBankX, HN.out.1, HN.out.2, HO.out]
        exact ⟨_, _, _, _, rfl, owns_set (owns_set (ho9.base (by omega)) nk9) nk9, owns_set (owns_set (hc9.base (by omega)) nc9) nc9, sp9, ((hs0.trans S9).setCell (by simp) _).setCell (by simp) _⟩
      · have b0 := hb4.box.cell 0 rfl
        have b1 := hb4.box.cell 1 rfl
        go_wp2_with fail
        refine (iBankOk_any A3 A4 c3 c4 K3 C3 _ (by omega) (by omega) HW3.out hb4.keys.ints hb4.cents.ints).mono ?_
        rintro e w8 ⟨rfl, hs8⟩
        replace hb4 := hb4.same hs8
        replace S4 := S4.trans hs8
        clear hs8 b0 b1
        cases m3 : bankOk K3 C3
        · have HO := show accOk K C key cents = false by rw [accOk, m1, m2, ← HK3.out, ← HC3.out, m3]; rfl
          have HN := Lib.hid (acc_no HO)
          replace HO := Lib.hid HO
          have e10 := (h1.same S4).cell 0 rfl
          have e11 := (h1.same S4).cell 1 rfl
          go_wp2_with fail
          refine (copyBank_any A c K B d C _ (by omega) (hA0.same S4) (by omega) (hB0.same S4)).mono ?_
          rintro e w9 ⟨A9, c9, B9, d9, rfl, ho9, hc9, sp9, hs9⟩
          have S9 := Same.trans S4 hs9
          have m9 := Same.size S4
          have k9 := h2.same S9
          have k90 := k9.cell 0 rfl
          have k91 := k9.cell 1 rfl
          have f90 := k9.frozen 0
          have f91 := k9.frozen 1
          have kk := (k9.set 0 (.slice A9 K.length c9)).set 1 (.slice B9 C.length d9)
          have cf0 := kk.cell 0 rfl
          have cf1 := kk.cell 1 rfl
          have l2 := h2.lt
          have nk9 : (Value.slice A9 K.length c9).ownBlock ≠ some (w.heap.size + 1) := fun e' => by have := (owns_new ho9 _ e').1; omega
          have nc9 : (Value.slice B9 C.length d9).ownBlock ≠ some (w.heap.size + 1) := fun e' => by have := (owns_new hc9 _ e').1; omega
          go_wp2
          refine bodyPost_ret (v := .tuple #[.agg #[.slice A9 K.length c9, .slice B9 C.length d9], .bool false]) (by simp [results, Try.results40, go_sem, cf0, cf1]) rfl ?_
          show RetBankX _ _ _ _ _ _
          rw [RetBankX, HN.out.1, HN.out.2, HO.out]
          exact ⟨_, _, _, _, rfl, owns_set (owns_set (ho9.base (by omega)) nk9) nk9, owns_set (owns_set (hc9.base (by omega)) nc9) nc9, sp9, ((hs0.trans S9).setCell (by simp) _).setCell (by simp) _⟩
        · have HO := show accOk K C key cents = true by rw [accOk, m1, m2, ← HK3.out, ← HC3.out, m3]; rfl
          have HN := acc_yes HO
          rw [← HK3.out, ← HC3.out] at HN
          replace HN := Lib.hid HN
          replace HO := Lib.hid HO
          have b0 := hb4.box.cell 0 rfl
          have b1 := hb4.box.cell 1 rfl
          have k9 := h2.same S4
          have f90 := k9.frozen 0
          have f91 := k9.frozen 1
          have k90 := k9.cell 0 rfl
          have k91 := k9.cell 1 rfl
          have kk := (k9.set 0 (.slice A3 K3.length c3)).set 1 (.slice A4 C3.length c4)
          have cf0 := kk.cell 0 rfl
          have cf1 := kk.cell 1 rfl
          have l2 := h2.lt
          have nk9 : (Value.slice A3 K3.length c3).ownBlock ≠ some (w.heap.size + 1) := fun e' => by have := (owns_new hb4.keys _ e').1; omega
          have nc9 : (Value.slice A4 C3.length c4).ownBlock ≠ some (w.heap.size + 1) := fun e' => by have := (owns_new hb4.cents _ e').1; omega
          go_wp2
          refine bodyPost_ret (v := .tuple #[.agg #[.slice A3 K3.length c3, .slice A4 C3.length c4], .bool true]) (by simp [results, Try.results40, go_sem, cf0, cf1]) rfl ?_
          show RetBankX _ _ _ _ _ _
          rw [RetBankX, HN.out.1, HN.out.2, HO.out]
          exact ⟨_, _, _, _, rfl, owns_set (owns_set (hb4.keys.base (by omega)) nk9) nk9, owns_set (owns_set (hb4.cents.base (by omega)) nc9) nc9, hb4.sep, ((hs0.trans S4).setCell (by simp) _).setCell (by simp) _⟩
    · have HO := show accOk K C key cents = false by rw [accOk, m1]; rfl
      have HN := Lib.hid (acc_no HO)
      replace HO := Lib.hid HO
      have e10 := (h1.same S4).cell 0 rfl
      have e11 := (h1.same S4).cell 1 rfl
      go_wp2_with fail
      refine (copyBank_any A c K B d C _ (by omega) (hA0.same S4) (by omega) (hB0.same S4)).mono ?_
      rintro e w9 ⟨A9, c9, B9, d9, rfl, ho9, hc9, sp9, hs9⟩
      have S9 := Same.trans S4 hs9
      have m9 := Same.size S4
      have k9 := h2.same S9
      have k90 := k9.cell 0 rfl
      have k91 := k9.cell 1 rfl
      have f90 := k9.frozen 0
      have f91 := k9.frozen 1
      have kk := (k9.set 0 (.slice A9 K.length c9)).set 1 (.slice B9 C.length d9)
      have cf0 := kk.cell 0 rfl
      have cf1 := kk.cell 1 rfl
      have l2 := h2.lt
      have nk9 : (Value.slice A9 K.length c9).ownBlock ≠ some (w.heap.size + 1) := fun e' => by have := (owns_new ho9 _ e').1; omega
      have nc9 : (Value.slice B9 C.length d9).ownBlock ≠ some (w.heap.size + 1) := fun e' => by have := (owns_new hc9 _ e').1; omega
      go_wp2
      refine bodyPost_ret (v := .tuple #[.agg #[.slice A9 K.length c9, .slice B9 C.length d9], .bool false]) (by simp [results, Try.results40, go_sem, cf0, cf1]) rfl ?_
      show RetBankX _ _ _ _ _ _
      rw [RetBankX, HN.out.1, HN.out.2, HO.out]
      exact ⟨_, _, _, _, rfl, owns_set (owns_set (ho9.base (by omega)) nk9) nk9, owns_set (owns_set (hc9.base (by omega)) nc9) nc9, sp9, ((hs0.trans S9).setCell (by simp) _).setCell (by simp) _⟩
end Go.Proofs.Ytccgbilgfnoheaa
