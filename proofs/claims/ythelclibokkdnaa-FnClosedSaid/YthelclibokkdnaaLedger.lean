/-
  Ledgers and books: LedgerOk, BooksOk, their copies and comparisons.
-/
import Derived.Test.YthelclibokkdnaaPost
import Derived.Test.YthelclibokkdnaaFound
namespace Go.Proofs.Ythelclibokkdnaa
open Go.RowKit

def ledgerOk (L : List TPosting) : Bool := decide (L.length ≤ 300) && L.all postingOk
theorem bad_any (m d c z : Int) (w : World) : Calls Try.prog 67 #[.agg #[.int .i64 m, .int .i64 d, .int .i64 c, .int .i64 z]] w fun e w' => e = .returned (.bool (!postingOk (m, d, c, z))) ∧ Same w w' := by
  go_enter Try.func67, Try.ntmps67
  go_wp2_with fail
  refine (iPostingOk_any m d c z _).mono ?_
  rintro e w1 ⟨rfl, hs1⟩
  go_wp2_with fail
  go_ret
  exact ⟨rfl, ((Same.refl w).alloc _).trans hs1⟩

set_option maxHeartbeats 400000 in
theorem indexBad_any (A : Option Addr) (c : Nat) (L : List TPosting) (w : World) (hz : L.length ≤ 9223372036854775807) (hA : AtPosting w A L) :
    Calls Try.prog 80 #[.slice A L.length c, .func (.func 67) #[] #[]] w fun e w' => ∃ r : Int, e = .returned (.int .i64 r) ∧ Found (fun x => !postingOk x) L r ∧ Same w w' := by
  go_enter Try.func80, Try.ntmps80
  go_wp2
  go_loopw [8] (fun i wr => ∃ k : Nat, k ≤ L.length ∧ i = .int .i64 k ∧ Hid ((L.take k).all (fun x => !!postingOk x) = true) ∧ Same w wr) (fun i _ => L.length - (intOf i).toNat)
  case atStart => exact ⟨0, Nat.zero_le _, rfl, by simp [Hid], Same.refl _⟩
  case round =>
    obtain ⟨k, hk, rfl, hall, hs⟩ := hrel
    by_cases hlt : k < L.length
    · obtain ⟨b, off, x, rfl, hc, HX, _⟩ := (hA.same hs).at_ hlt
      clear hA
      obtain ⟨f0, f1, f2, f3⟩ := x
      have c0 := hc 0 _ rfl
      have c1 := hc 1 _ rfl
      have c2 := hc 2 _ rfl
      have c3 := hc 3 _ rfl
      simp only [Nat.add_zero] at c0
      clear hc

      go_wp2_with fail
      refine (bad_any f0 f1 f2 f3 _).mono ?_
      rintro e w1 ⟨rfl, hs1⟩
      have hss := hs.trans hs1
      clear hs hs1
      cases hp : !postingOk (f0, f1, f2, f3)
      · have HP := Lib.hid (all_take_succ hall.out HX.out (show (!!postingOk (f0, f1, f2, f3)) = true by rw [hp]; rfl))
        go_wp2
        go_roundw
        case rel => exact ⟨k + 1, hlt, by go_num, HP, hss⟩
        case measure => simp [intOf]; omega
      · have HP := Lib.hid (show Found (fun x => !postingOk x) L k from .inr ⟨k, _, rfl, HX.out, hp, hall.out⟩)
        go_wp2
        go_ret
        exact ⟨_, rfl, HP.out, hss⟩
    · have hl := hall.out
      rw [show k = L.length by omega, List.take_length] at hl
      have HP := Lib.hid hl
      clear hl hall
      go_wp2
      go_ret
      exact ⟨_, rfl, .inl ⟨rfl, HP.out⟩, hs⟩

theorem containsBad_any (A : Option Addr) (c : Nat) (L : List TPosting) (w : World) (hz : L.length ≤ 9223372036854775807) (hA : AtPosting w A L) :
    Calls Try.prog 66 #[.slice A L.length c, .func (.func 67) #[] #[]] w fun e w' => e = .returned (.bool (!L.all postingOk)) ∧ Same w w' := by
  go_enter Try.func66, Try.ntmps66
  go_wp2_with fail
  refine (indexBad_any A c L _ hz hA).mono ?_
  rintro e w1 ⟨r, rfl, hf, hs1⟩
  have HF := Lib.hid hf.any
  clear hf
  go_wp2
  all_goals go_ret
  all_goals exact ⟨ret_bool (by rw [List.not_all_eq_any_not]; first | exact HF.out | (rw [← HF.out]; simp; omega)), hs1⟩

set_option maxHeartbeats 400000 in
theorem iLedgerOk_any (A : Option Addr) (c : Nat) (L : List TPosting) (w : World) (hz : L.length ≤ 9223372036854775807) (hA : AtPosting w A L) :
    Calls Try.prog 25 #[.agg #[.slice A L.length c]] w fun e w' => e = .returned (.bool (ledgerOk L)) ∧ Same w w' := by
  by_cases hl : L.length ≤ 300
  · have hl' : (L.length : Int) ≤ 300 := by omega
    go_enter Try.func25, Try.ntmps25
    go_wp2_with fail
    refine (containsBad_any A c L _ hz (hA.same ((Same.refl w).alloc _))).mono ?_
    rintro e w1 ⟨rfl, hs1⟩
    go_wp2_with fail
    go_ret
    exact ⟨ret_bool (by simp [ledgerOk, hl]), ((Same.refl w).alloc _).trans hs1⟩
  · have hl' : ¬ (L.length : Int) ≤ 300 := by omega
    go_enter Try.func25, Try.ntmps25
    go_wp2
    go_ret
    exact ⟨ret_bool (by simp [ledgerOk, hl]), (Same.refl w).alloc _⟩

set_option maxHeartbeats 1000000 in
theorem sLedgerOk_any (A : Option Addr) (c : Nat) (L : List TPosting) (w : World) (hz : L.length ≤ 9223372036854775807) (hA : AtPosting w A L) :
    Calls Try.prog 23 #[.agg #[.slice A L.length c]] w fun e w' => e = .returned (.bool (ledgerOk L)) ∧ Same w w' := by
  go_enter Try.func23, Try.ntmps23
  go_wp2
  have hb := BoxAt.new w 38 [.slice A L.length c]
  have hs0 := (Same.refl w).alloc (.cells #[.slice A L.length c] 38)
  generalize w.alloc (.cells #[.slice A L.length c] 38) = w0 at *
  go_loopw [3] (fun i wr => ∃ k : Nat, k ≤ L.length ∧ i = .int .i64 k ∧ Hid ((L.take k).all postingOk = true) ∧ Same w0 wr) (fun i _ => L.length - (intOf i).toNat)
  case atStart => exact ⟨0, Nat.zero_le _, rfl, by simp [Hid], Same.refl _⟩
  case round =>
    obtain ⟨k, hk, rfl, hall, hs⟩ := hrel
    replace hb := hb.same hs
    have b0 := hb.cell 0 rfl
    clear hb
    by_cases hlt : k < L.length
    · obtain ⟨b, off, x, rfl, hc, HX, _⟩ := ((hA.same hs0).same hs).at_ hlt
      clear hA
      obtain ⟨f0, f1, f2, f3⟩ := x
      have c0 := hc 0 _ rfl
      have c1 := hc 1 _ rfl
      have c2 := hc 2 _ rfl
      have c3 := hc 3 _ rfl
      simp only [Nat.add_zero] at c0
      clear hc
      go_wp2_with fail
      refine (sPostingOk_any f0 f1 f2 f3 _).mono ?_
      rintro e w1 ⟨rfl, hs1⟩
      have hss := hs.trans hs1
      clear hs hs1
      cases hp : postingOk (f0, f1, f2, f3)
      · have HP := Lib.hid (show ledgerOk L = false by rw [ledgerOk, all_false HX.out hp]; simp)
        go_wp2
        go_ret
        exact ⟨ret_bool HP.out.symm, hs0.trans hss⟩
      · have HP := Lib.hid (all_take_succ hall.out HX.out hp)
        go_wp2
        go_roundw
        case rel => exact ⟨k + 1, hlt, by go_num, HP, hss⟩
        case measure => simp [intOf]; omega
    · have hl := hall.out
      rw [show k = L.length by omega, List.take_length] at hl
      have HP := Lib.hid hl
      clear hl hall
      go_wp2
      all_goals go_ret
      all_goals exact ⟨ret_bool (by rw [ledgerOk, HP.out]; simp; omega), hs0.trans hs⟩

theorem szLedger_any (A : Option Addr) (n c : Nat) (l : Int) (w : World) (hn : n ≤ 9223372036854775807) (h0 : 0 ≤ l) (h1 : l ≤ 1048576) :
    Calls Try.prog 22 #[.agg #[.slice A n c], .int .i64 l] w fun e w' => e = .returned (.int .i64 (if (n : Int) ≤ l then l - n else -1)) ∧ Same w w' := by
  by_cases h : (n : Int) ≤ l
  · go_enter Try.func22, Try.ntmps22
    go_wp2_with fail
    refine (szPostingS_any A n c l _ hn h0 h1).mono ?_
    rintro e w1 ⟨rfl, rfl⟩
    rw [if_pos h]
    go_wp2
    go_ret
    exact ⟨rfl, (Same.refl w).alloc _⟩
  · go_enter Try.func22, Try.ntmps22
    go_wp2_with fail
    refine (szPostingS_any A n c l _ hn h0 h1).mono ?_
    rintro e w1 ⟨rfl, rfl⟩
    rw [if_neg (show ¬ (n : Int) ≤ l by omega)]
    go_wp2
    go_ret
    exact ⟨rfl, (Same.refl w).alloc _⟩

/-- A ledger handed back, its row new. -/
def RetLedger (w : World) (L : List TPosting) (e : Ending) (w' : World) : Prop := ∃ A c, e = .returned (.agg #[.slice A L.length c]) ∧ OwnPosting w' w.heap.size (.slice A L.length c) L ∧ Same w w'

set_option maxHeartbeats 400000 in
theorem toLedger_any (A : Option Addr) (c : Nat) (L : List TPosting) (w : World) (hz : L.length ≤ 1048576) (hA : AtPosting w A L) :
    Calls Try.prog 24 #[.agg #[.slice A L.length c]] w (RetLedger w L) := by
  go_enter Try.func24, Try.ntmps24
  go_wp2_with fail
  have h2 : BoxAt (((w.alloc (.cells #[.slice A L.length c] 33)).alloc (.cells #[.slice none 0 0] 38)).alloc (.cells #[.slice none 0 0] 38)) (w.heap.size + 1) 38 [.slice none 0 0] := by simpa using (BoxAt.alloc (BoxAt.new (w.alloc (.cells #[.slice A L.length c] 33)) 38 [.slice none 0 0]) (.cells #[.slice none 0 0] 38))
  have h3 : BoxAt (((w.alloc (.cells #[.slice A L.length c] 33)).alloc (.cells #[.slice none 0 0] 38)).alloc (.cells #[.slice none 0 0] 38)) (w.heap.size + 1 + 1) 38 [.slice none 0 0] := by simpa using (BoxAt.new ((w.alloc (.cells #[.slice A L.length c] 33)).alloc (.cells #[.slice none 0 0] 38)) 38 [.slice none 0 0])
  have hs0 := (Same.alloc (Same.alloc (Same.alloc (Same.refl w) (.cells #[.slice A L.length c] 33)) (.cells #[.slice none 0 0] 38)) (.cells #[.slice none 0 0] 38))
  generalize (((w.alloc (.cells #[.slice A L.length c] 33)).alloc (.cells #[.slice none 0 0] 38)).alloc (.cells #[.slice none 0 0] 38)) = w0 at *
  refine (toPostingS_any A c L _ hz (hA.same hs0)).mono ?_
  rintro e w1 ⟨rfl, ho, hs1⟩
  have hlt := h3.lt
  have hlt' := hs1.size
  replace h2 := h2.same hs1
  replace h3 := h3.same hs1
  have c2 := h2.cell 0 rfl
  have c3 := h3.cell 0 rfl
  have f2 := h2.frozen 0
  have f3 := h3.frozen 0
  have cf := ((h2.other (k := w.heap.size + 1 + 1) (j := 0) (.slice (some ⟨w0.heap.size, 0, none⟩) L.length L.length) (by omega)).set 0 (.slice (some ⟨w0.heap.size, 0, none⟩) L.length L.length)).cell 0 rfl
  go_wp2
  exact bodyPost_ret (v := .agg #[.slice (some ⟨w0.heap.size, 0, none⟩) L.length L.length]) (by simp [results, Try.results24, go_sem, cf]) rfl ⟨_, _, rfl, (((ho.rebase hs0.size).upd (upd_setCell _ _ _ _) ho.zn (.inr (by omega))).upd (upd_setCell _ _ _ _) ho.zn (.inr (by omega))), ((hs0.trans hs1).setCell (by simp; omega) _).setCell (by simp) _⟩

set_option maxHeartbeats 400000 in
theorem eqLedger_any (A B : Option Addr) (c d : Nat) (xs ys : List TPosting) (w : World) (hx : xs.length ≤ 9223372036854775807) (hy : ys.length ≤ 9223372036854775807) (hA : AtPosting w A xs) (hB : AtPosting w B ys) :
    Calls Try.prog 26 #[.agg #[.slice A xs.length c], .agg #[.slice B ys.length d]] w fun e w' => e = .returned (.bool (decide (xs = ys))) ∧ Same w w' := by
  go_enter Try.func26, Try.ntmps26
  go_wp2_with fail
  have hs0 := (Same.alloc (Same.alloc (Same.refl w) (.cells #[.slice A xs.length c] 38)) (.cells #[.slice B ys.length d] 38))
  generalize ((w.alloc (.cells #[.slice A xs.length c] 38)).alloc (.cells #[.slice B ys.length d] 38)) = w0 at *
  refine (eqPostingS_any A B c d xs ys _ hx hy (hA.same hs0) (hB.same hs0)).mono ?_
  rintro e w1 ⟨rfl, hs1⟩
  by_cases h : xs = ys
  · rw [decide_eq_true h]
    have H := Lib.hid h
    clear h
    go_wp2
    go_ret
    exact ⟨ret_bool (by simp [H.out]), hs0.trans hs1⟩
  · rw [decide_eq_false h]
    have H := Lib.hid h
    clear h
    go_wp2
    go_ret
    exact ⟨ret_bool (by simp [H.out]), hs0.trans hs1⟩

theorem szBooks_any (A : Option Addr) (n c : Nat) (z l : Int) (w : World) (hn : n ≤ 9223372036854775807) (h0 : 0 ≤ l) (h1 : l ≤ 1048576) :
    Calls Try.prog 27 #[.agg #[.slice A n c, .int .i64 z], .int .i64 l] w fun e w' => e = .returned (.int .i64 (if (n : Int) ≤ l then l - n else -1)) ∧ Same w w' := by
  by_cases h : (n : Int) ≤ l
  · go_enter Try.func27, Try.ntmps27
    go_wp2_with fail
    refine (szLedger_any A n c l _ hn h0 h1).mono ?_
    rintro e w1 ⟨rfl, hs1⟩
    rw [if_pos h]
    go_wp2
    go_ret
    exact ⟨rfl, ((Same.refl w).alloc _).trans hs1⟩
  · go_enter Try.func27, Try.ntmps27
    go_wp2_with fail
    refine (szLedger_any A n c l _ hn h0 h1).mono ?_
    rintro e w1 ⟨rfl, hs1⟩
    rw [if_neg (show ¬ (n : Int) ≤ l by omega)]
    go_wp2
    go_ret
    exact ⟨rfl, ((Same.refl w).alloc _).trans hs1⟩

/-- Books handed back, their row new. -/
def RetBooks (w : World) (L : List TPosting) (z : Int) (e : Ending) (w' : World) : Prop := ∃ A c, e = .returned (.agg #[.slice A L.length c, .int .i64 z]) ∧ OwnPosting w' w.heap.size (.slice A L.length c) L ∧ Same w w'

set_option maxHeartbeats 400000 in
theorem toBooks_any (A : Option Addr) (c : Nat) (L : List TPosting) (z : Int) (w : World) (hz : L.length ≤ 1048576) (hA : AtPosting w A L) :
    Calls Try.prog 29 #[.agg #[.slice A L.length c, .int .i64 z]] w (RetBooks w L z) := by
  go_enter Try.func29, Try.ntmps29
  go_wp2_with fail
  have h1 : BoxAt (((w.alloc (.cells #[.slice A L.length c, .int .i64 z] 43)).alloc (.cells #[.slice none 0 0, .int .i64 0] 47)).alloc (.cells #[.slice none 0 0, .int .i64 0] 47)) (w.heap.size) 43 [.slice A L.length c, .int .i64 z] := by simpa using (BoxAt.alloc (BoxAt.alloc (BoxAt.new w 43 [.slice A L.length c, .int .i64 z]) (.cells #[.slice none 0 0, .int .i64 0] 47)) (.cells #[.slice none 0 0, .int .i64 0] 47))
  have h2 : BoxAt (((w.alloc (.cells #[.slice A L.length c, .int .i64 z] 43)).alloc (.cells #[.slice none 0 0, .int .i64 0] 47)).alloc (.cells #[.slice none 0 0, .int .i64 0] 47)) (w.heap.size + 1) 47 [.slice none 0 0, .int .i64 0] := by simpa using (BoxAt.alloc (BoxAt.new (w.alloc (.cells #[.slice A L.length c, .int .i64 z] 43)) 47 [.slice none 0 0, .int .i64 0]) (.cells #[.slice none 0 0, .int .i64 0] 47))
  have h3 : BoxAt (((w.alloc (.cells #[.slice A L.length c, .int .i64 z] 43)).alloc (.cells #[.slice none 0 0, .int .i64 0] 47)).alloc (.cells #[.slice none 0 0, .int .i64 0] 47)) (w.heap.size + 1 + 1) 47 [.slice none 0 0, .int .i64 0] := by simpa using (BoxAt.new ((w.alloc (.cells #[.slice A L.length c, .int .i64 z] 43)).alloc (.cells #[.slice none 0 0, .int .i64 0] 47)) 47 [.slice none 0 0, .int .i64 0])
  have hs0 := (Same.alloc (Same.alloc (Same.alloc (Same.refl w) (.cells #[.slice A L.length c, .int .i64 z] 43)) (.cells #[.slice none 0 0, .int .i64 0] 47)) (.cells #[.slice none 0 0, .int .i64 0] 47))
  generalize (((w.alloc (.cells #[.slice A L.length c, .int .i64 z] 43)).alloc (.cells #[.slice none 0 0, .int .i64 0] 47)).alloc (.cells #[.slice none 0 0, .int .i64 0] 47)) = w0 at *
  refine (toLedger_any A c L _ hz (hA.same hs0)).mono ?_
  rintro e w1 ⟨A1, c1, rfl, ho, hs1⟩
  have hlt := h3.lt
  have hlt' := hs1.size
  replace h1 := h1.same hs1
  replace h2 := h2.same hs1
  replace h3 := h3.same hs1
  have b1 := h1.cell 1 rfl
  have c20 := h2.cell 0 rfl
  have f20 := h2.frozen 0
  have c21 := h2.cell 1 rfl
  have f21 := h2.frozen 1
  have c30 := h3.cell 0 rfl
  have f30 := h3.frozen 0
  have c31 := h3.cell 1 rfl
  have f31 := h3.frozen 1
  have k3 := (h3.set 0 (.slice A1 L.length c1)).set 1 (.int .i64 z)
  have k2 := ((((h2.other (k := w.heap.size + 1 + 1) (j := 0) (.slice A1 L.length c1) (by omega)).other (k := w.heap.size + 1 + 1) (j := 1) (.int .i64 z) (by omega)).set 0 (.slice A1 L.length c1)).set 1 (.int .i64 z))
  have cf0 := k2.cell 0 rfl
  have cf1 := k2.cell 1 rfl
  go_wp2
  exact bodyPost_ret (v := .agg #[.slice A1 L.length c1, .int .i64 z]) (by simp [results, Try.results29, go_sem, cf0, cf1]) rfl ⟨_, _, rfl,
    (((((ho.rebase hs0.size).upd (upd_setCell _ _ _ _) ho.zn (.inr (by omega))).upd (upd_setCell _ _ _ _) ho.zn (.inr (by omega))).upd (upd_setCell _ _ _ _) ho.zn (.inr (by omega))).upd (upd_setCell _ _ _ _) ho.zn (.inr (by omega))),
    ((((hs0.trans hs1).setCell (by simp; omega) _).setCell (by simp; omega) _).setCell (by simp) _).setCell (by simp) _⟩

set_option maxHeartbeats 400000 in
theorem eqBooks_any (A B : Option Addr) (c d : Nat) (xs ys : List TPosting) (x y : Int) (w : World) (hx : xs.length ≤ 9223372036854775807) (hy : ys.length ≤ 9223372036854775807) (hA : AtPosting w A xs) (hB : AtPosting w B ys) :
    Calls Try.prog 31 #[.agg #[.slice A xs.length c, .int .i64 x], .agg #[.slice B ys.length d, .int .i64 y]] w fun e w' => e = .returned (.bool (decide (xs = ys) && decide (x = y))) ∧ Same w w' := by
  go_enter Try.func31, Try.ntmps31
  go_wp2_with fail
  have h1 : BoxAt ((w.alloc (.cells #[.slice A xs.length c, .int .i64 x] 47)).alloc (.cells #[.slice B ys.length d, .int .i64 y] 47)) (w.heap.size) 47 [.slice A xs.length c, .int .i64 x] := by simpa using (BoxAt.alloc (BoxAt.new w 47 [.slice A xs.length c, .int .i64 x]) (.cells #[.slice B ys.length d, .int .i64 y] 47))
  have h2 : BoxAt ((w.alloc (.cells #[.slice A xs.length c, .int .i64 x] 47)).alloc (.cells #[.slice B ys.length d, .int .i64 y] 47)) (w.heap.size + 1) 47 [.slice B ys.length d, .int .i64 y] := by simpa using (BoxAt.new (w.alloc (.cells #[.slice A xs.length c, .int .i64 x] 47)) 47 [.slice B ys.length d, .int .i64 y])
  have hs0 := (Same.alloc (Same.alloc (Same.refl w) (.cells #[.slice A xs.length c, .int .i64 x] 47)) (.cells #[.slice B ys.length d, .int .i64 y] 47))
  generalize ((w.alloc (.cells #[.slice A xs.length c, .int .i64 x] 47)).alloc (.cells #[.slice B ys.length d, .int .i64 y] 47)) = w0 at *
  refine (eqLedger_any A B c d xs ys _ hx hy (hA.same hs0) (hB.same hs0)).mono ?_
  rintro e w1 ⟨rfl, hs1⟩
  replace h1 := h1.same hs1
  replace h2 := h2.same hs1
  have b1 := h1.cell 1 rfl
  have b2 := h2.cell 1 rfl
  by_cases h : xs = ys
  · rw [decide_eq_true h]
    have H := Lib.hid h
    clear h
    by_cases hxy : x = y
    · subst hxy
      have hb : (x != x) = false := by simp
      go_wp2
      go_ret
      exact ⟨ret_bool (by simp [H.out]), hs0.trans hs1⟩
    · have hb : (x != y) = true := by simp [hxy]
      have HN := Lib.hid hxy
      clear hxy
      go_wp2
      go_ret
      exact ⟨ret_bool (by simp [HN.out]), hs0.trans hs1⟩
  · rw [decide_eq_false h]
    have H := Lib.hid h
    clear h
    go_wp2
    go_ret
    exact ⟨ret_bool (by simp [H.out]), hs0.trans hs1⟩

theorem sBooksOk_any (A : Option Addr) (c : Nat) (L : List TPosting) (z : Int) (w : World) (hz : L.length ≤ 9223372036854775807) (hA : AtPosting w A L) :
    Calls Try.prog 28 #[.agg #[.slice A L.length c, .int .i64 z]] w fun e w' => e = .returned (.bool (ledgerOk L && inB z 0 3599)) ∧ Same w w' := by
  cases h : ledgerOk L
  · go_enter Try.func28, Try.ntmps28
    go_wp2_with fail
    refine (sLedgerOk_any A c L _ hz (hA.same ((Same.refl w).alloc _))).mono ?_
    rintro e w1 ⟨rfl, hs1⟩
    rw [h]
    go_wp2
    go_ret
    exact ⟨rfl, ((Same.refl w).alloc _).trans hs1⟩
  · go_enter Try.func28, Try.ntmps28
    go_wp2_with fail
    have hb := (BoxAt.new w 47 [.slice A L.length c, .int .i64 z])
    refine (sLedgerOk_any A c L _ hz (hA.same ((Same.refl w).alloc _))).mono ?_
    rintro e w1 ⟨rfl, hs1⟩
    rw [h]
    have b1 := (hb.same hs1).cell 1 rfl
    go_wp2_with (go_at_call 60; refine (sMonthOk_any _ _).mono ?_; rintro e w' ⟨rfl, rfl⟩)
    go_ret
    exact ⟨rfl, ((Same.refl w).alloc _).trans hs1⟩

theorem iBooksOk_any (A : Option Addr) (c : Nat) (L : List TPosting) (z : Int) (w : World) (hz : L.length ≤ 9223372036854775807) (hA : AtPosting w A L) :
    Calls Try.prog 30 #[.agg #[.slice A L.length c, .int .i64 z]] w fun e w' => e = .returned (.bool (ledgerOk L && inB z 0 3599)) ∧ Same w w' := by
  cases h : ledgerOk L
  · go_enter Try.func30, Try.ntmps30
    go_wp2_with fail
    refine (iLedgerOk_any A c L _ hz (hA.same ((Same.refl w).alloc _))).mono ?_
    rintro e w1 ⟨rfl, hs1⟩
    rw [h]
    go_wp2
    go_ret
    exact ⟨rfl, ((Same.refl w).alloc _).trans hs1⟩
  · go_enter Try.func30, Try.ntmps30
    go_wp2_with fail
    have hb := (BoxAt.new w 47 [.slice A L.length c, .int .i64 z])
    refine (iLedgerOk_any A c L _ hz (hA.same ((Same.refl w).alloc _))).mono ?_
    rintro e w1 ⟨rfl, hs1⟩
    rw [h]
    have b1 := (hb.same hs1).cell 1 rfl
    go_wp2_with (go_at_call 63; refine (within_any _ _ _ _).mono ?_; rintro e w' ⟨rfl, rfl⟩)
    go_ret
    exact ⟨rfl, ((Same.refl w).alloc _).trans hs1⟩
end Go.Proofs.Ythelclibokkdnaa
