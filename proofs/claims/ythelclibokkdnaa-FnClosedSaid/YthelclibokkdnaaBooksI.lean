/-
  Postings into books, and books closed: the program's.
-/
import Derived.Test.YthelclibokkdnaaPostI
import Derived.Test.YthelclibokkdnaaDrawLed
import Derived.Deep.RegionHeld3
import Derived.BigRegion
namespace Go.Proofs.Ythelclibokkdnaa
open Go.RowKit
set_option linter.unusedVariables false

/-! Books handed back, their row new. -/
def RetBooksX (w : World) (L : List TPosting) (z : Int) (x : Value) (e : Ending) (w' : World) : Prop := ∃ A c, e = .returned (.tuple #[.agg #[.slice A L.length c, .int .i64 z], x]) ∧ OwnPosting w' w.heap.size (.slice A L.length c) L ∧ Same w w'
def RetBooksXY (w : World) (L : List TPosting) (z : Int) (x y : Value) (e : Ending) (w' : World) : Prop := ∃ A c, e = .returned (.tuple #[.agg #[.slice A L.length c, .int .i64 z], x, y]) ∧ OwnPosting w' w.heap.size (.slice A L.length c) L ∧ Same w w'

set_option maxHeartbeats 1000000 in
theorem copyBooks_any (A : Option Addr) (c : Nat) (L : List TPosting) (z : Int) (w : World) (hz : L.length ≤ 1000000000) (hA : AtPosting w A L) :
    Calls Try.prog 78 #[.agg #[.slice A L.length c, .int .i64 z]] w (RetBooks w L z) := by
  go_enter Try.func78, Try.ntmps78
  go_wp2
  have h1 : BoxAt ((w.alloc (.cells #[.slice A L.length c, .int .i64 z] 47)).alloc (.cells #[.slice none 0 0, .int .i64 0] 47)) (w.heap.size) 47 [.slice A L.length c, .int .i64 z] := by simpa using (BoxAt.alloc (BoxAt.new w 47 [.slice A L.length c, .int .i64 z]) (.cells #[.slice none 0 0, .int .i64 0] 47))
  have h2 : BoxAt ((w.alloc (.cells #[.slice A L.length c, .int .i64 z] 47)).alloc (.cells #[.slice none 0 0, .int .i64 0] 47)) (w.heap.size + 1) 47 [.slice none 0 0, .int .i64 0] := by simpa using (BoxAt.new (w.alloc (.cells #[.slice A L.length c, .int .i64 z] 47)) 47 [.slice none 0 0, .int .i64 0])
  have hs0 := (Same.alloc (Same.alloc (Same.refl w) (.cells #[.slice A L.length c, .int .i64 z] 47)) (.cells #[.slice none 0 0, .int .i64 0] 47))
  generalize ((w.alloc (.cells #[.slice A L.length c, .int .i64 z] 47)).alloc (.cells #[.slice none 0 0, .int .i64 0] 47)) = w0 at *
  have n0 := hs0.size
  have n2 := h2.lt
  have b0 := h1.cell 0 rfl
  have b1 := h1.cell 1 rfl
  have hA0 := hA.same hs0
  go_region_held3 (fun w' => w'.cell? ⟨w.heap.size, 0, none⟩ = some (.slice A L.length c) ∧ w'.cell? ⟨w.heap.size, 1, none⟩ = some (.int .i64 z))
    (first | exact ⟨b0, b1⟩ | exact ⟨(h1.same S1).cell 0 rfl, (h1.same S1).cell 1 rfl⟩ | exact ⟨y0, y1⟩)
    ((go_at_call 74; refine (copyLedger_any A c L _ hz (hA0.same (Same.refl _).drew)).mono ?_; rintro e w1 ⟨A1, c1, rfl, ho, hs1⟩; (have S1 := (Same.refl w0).drew.trans hs1); (have k2 := h2.same S1); (have c20 := k2.cell 0 rfl); (have c21 := k2.cell 1 rfl); (have f20 := k2.frozen 0); (have f21 := k2.frozen 1); (have g1 := ((h1.same S1).upd (upd_setCell w1 (w.heap.size + 1) 0 (.slice A1 L.length c1)) (.inl (by omega))).upd (upd_setCell _ (w.heap.size + 1) 1 (.int .i64 z)) (.inl (by omega))); (have y0 := g1.cell 0 rfl); (have y1 := g1.cell 1 rfl)))
  all_goals
    have k3 := (k2.set 0 (.slice A1 L.length c1)).set 1 (.int .i64 z)
    have x0 := k3.cell 0 rfl
    have x1 := k3.cell 1 rfl
    have zo := OwnR.zn ho
    have nn := S1.size
    go_wp2
    exact bodyPost_ret (v := .agg #[.slice A1 L.length c1, .int .i64 z]) (by simp [results, Try.results78, go_sem, x0, x1]) rfl
      ⟨A1, c1, rfl, OwnR.rebase (OwnR.upd (OwnR.upd ho (upd_setCell _ _ _ _) zo (.inr (by simp; omega))) (upd_setCell _ _ _ _) zo (.inr (by simp; omega))) (by simp; omega), ((hs0.trans S1).setCell (by simp) _).setCell (by simp) _⟩

set_option maxHeartbeats 1000000 in
/-- CloseUpTo of valid books to a later month. -/
theorem iCloseUpTo_yes (A : Option Addr) (c : Nat) (L : List TPosting) (z m : Int) (w : World) (hl : L.length ≤ 200) (hok : ledgerOk L = true) (hz0 : 0 ≤ z) (hm : z ≤ m) (hm1 : m ≤ 3599) (hA : AtPosting w A L) :
    Calls Try.prog 49 #[.agg #[.slice A L.length c, .int .i64 z], .int .i64 m] w (RetBooksX w L m (.bool true)) := by
  have HOK := Lib.hid (show (ledgerOk L && inB z 0 3599) = true by rw [hok]; simp [inB]; omega)
  have HM := Lib.hid (show inB m 0 3599 = true by simp [inB]; omega)
  clear hok
  go_enter Try.func49, Try.ntmps49
  go_wp2_with fail
  have h1 : BoxAt ((w.alloc (.cells #[.slice A L.length c, .int .i64 z] 47)).alloc (.cells #[.slice none 0 0, .int .i64 0] 47)) (w.heap.size) 47 [.slice A L.length c, .int .i64 z] := by simpa using (BoxAt.alloc (BoxAt.new w 47 [.slice A L.length c, .int .i64 z]) (.cells #[.slice none 0 0, .int .i64 0] 47))
  have h2 : BoxAt ((w.alloc (.cells #[.slice A L.length c, .int .i64 z] 47)).alloc (.cells #[.slice none 0 0, .int .i64 0] 47)) (w.heap.size + 1) 47 [.slice none 0 0, .int .i64 0] := by simpa using (BoxAt.new (w.alloc (.cells #[.slice A L.length c, .int .i64 z] 47)) 47 [.slice none 0 0, .int .i64 0])
  have hs0 := (Same.alloc (Same.alloc (Same.refl w) (.cells #[.slice A L.length c, .int .i64 z] 47)) (.cells #[.slice none 0 0, .int .i64 0] 47))
  generalize ((w.alloc (.cells #[.slice A L.length c, .int .i64 z] 47)).alloc (.cells #[.slice none 0 0, .int .i64 0] 47)) = w0 at *
  have n0 := hs0.size
  have n2 := h2.lt
  have b0 := h1.cell 0 rfl
  have b1 := h1.cell 1 rfl
  refine (copyBooks_any A c L z _ (by omega) (hA.same hs0)).mono ?_
  rintro e w1 ⟨A1, c1, rfl, ho, hs1⟩
  have h3 := BoxAt.new w1 47 [.slice A1 L.length c1, .int .i64 z]
  have al := (Same.refl w1).alloc (.cells #[.slice A1 L.length c1, .int .i64 z] 47)
  have S1 := hs1.trans al
  have ho1 := ho.same al
  clear b0 b1
  have b0 := (h1.same S1).cell 0 rfl
  have b1 := (h1.same S1).cell 1 rfl
  go_wp2_with fail
  generalize w1.alloc (.cells #[.slice A1 L.length c1, .int .i64 z] 47) = w2 at *
  refine (iBooksOk_any A c L z _ (by omega) ((hA.same hs0).same S1)).mono ?_
  rw [HOK.out]
  rintro e w3 ⟨rfl, hs3⟩
  clear b0 b1
  go_wp2_with fail
  refine (iMonthOk_any m _).mono ?_
  rw [HM.out]
  rintro e w4 ⟨rfl, rfl⟩
  have b1 := (h1.same (S1.trans hs3)).cell 1 rfl
  have hlt := h3.lt
  have k3 := h3.same hs3
  have c30 := k3.cell 0 rfl
  have c31 := k3.cell 1 rfl
  have f31 := k3.frozen 1
  have k3' := k3.set 1 (.int .i64 m)
  have e30 := k3'.cell 0 rfl
  have e31 := k3'.cell 1 rfl
  have n1 := hs1.size
  have k2 := (h2.same (S1.trans hs3)).other (k := w1.heap.size) (j := 1) (.int .i64 m) (by omega)
  have c20 := k2.cell 0 rfl
  have c21 := k2.cell 1 rfl
  have f20 := k2.frozen 0
  have f21 := k2.frozen 1
  have x4 := (k2.set 0 (.slice A1 L.length c1)).set 1 (.int .i64 m)
  have x0 := x4.cell 0 rfl
  have x1 := x4.cell 1 rfl
  have o3 := ho1.same hs3
  have zo := OwnR.zn ho
  have hmz : ¬ m < z := by omega
  go_wp2
  exact bodyPost_ret (v := .tuple #[.agg #[.slice A1 L.length c1, .int .i64 m], .bool true]) (by simp [results, Try.results49, go_sem, x0, x1]) rfl
    ⟨A1, c1, rfl, OwnR.rebase (OwnR.upd (OwnR.upd (OwnR.upd o3 (upd_setCell _ _ _ _) zo (.inl (by omega))) (upd_setCell _ _ _ _) zo (.inr (by omega))) (upd_setCell _ _ _ _) zo (.inr (by omega))) (by omega), ((((hs0.trans S1).trans hs3).setCell (by first | omega | (simp; omega)) _).setCell (by simp) _).setCell (by simp) _⟩

set_option maxHeartbeats 1000000 in
/-- PostOpen of a valid posting into valid books. -/
theorem iPostOpen_yes (A : Option Addr) (c : Nat) (L : List TPosting) (z m d k x : Int) (w : World) (hl : L.length ≤ 200) (hok : ledgerOk L = true) (hz0 : 0 ≤ z) (hz1 : z ≤ 3599) (hp : postingOk (m, d, k, x) = true) (hA : AtPosting w A L) :
    Calls Try.prog 47 #[.agg #[.slice A L.length c, .int .i64 z], .agg #[.int .i64 m, .int .i64 d, .int .i64 k, .int .i64 x]] w (RetBooksX w (if z ≤ m then L ++ [(m, d, k, x)] else L) z (.bool (decide (z ≤ m)))) := by
  obtain ⟨M, hM⟩ : ∃ M, M = L ++ [(m, d, k, x)] := ⟨_, rfl⟩
  have hlM : M.length ≤ 201 := by rw [hM]; simp; omega
  have HPO := Lib.hid (show postOk L (m, d, k, x) = true ∧ postL L (m, d, k, x) = M from by
    have hp1 : ledgerOk (L ++ [(m, d, k, x)]) = true := by
      rw [ledgerOk, Bool.and_eq_true, decide_eq_true_eq] at hok ⊢
      refine ⟨by simp; omega, ?_⟩
      rw [List.all_append, hok.2]
      simp [hp]
    have h1 : postOk L (m, d, k, x) = true := by rw [postOk, hok, hp1]; rfl
    exact ⟨h1, by rw [postL, h1, hM]; rfl⟩)
  rw [← hM]
  have HOK := Lib.hid (show (ledgerOk L && inB z 0 3599) = true by rw [hok]; simp [inB]; omega)
  clear hok hp hM
  by_cases hmz : z ≤ m
  · rw [if_pos hmz, show (decide (z ≤ m)) = true by simpa using hmz]
    go_enter Try.func47, Try.ntmps47
    go_wp2_with fail
    have h1 : BoxAt (((w.alloc (.cells #[.slice A L.length c, .int .i64 z] 47)).alloc (.cells #[.int .i64 m, .int .i64 d, .int .i64 k, .int .i64 x] 25)).alloc (.cells #[.slice none 0 0, .int .i64 0] 47)) (w.heap.size) 47 [.slice A L.length c, .int .i64 z] := by simpa using (BoxAt.alloc (BoxAt.alloc (BoxAt.new w 47 [.slice A L.length c, .int .i64 z]) (.cells #[.int .i64 m, .int .i64 d, .int .i64 k, .int .i64 x] 25)) (.cells #[.slice none 0 0, .int .i64 0] 47))
    have h3 : BoxAt (((w.alloc (.cells #[.slice A L.length c, .int .i64 z] 47)).alloc (.cells #[.int .i64 m, .int .i64 d, .int .i64 k, .int .i64 x] 25)).alloc (.cells #[.slice none 0 0, .int .i64 0] 47)) (w.heap.size + 1) 25 [.int .i64 m, .int .i64 d, .int .i64 k, .int .i64 x] := by simpa using (BoxAt.alloc (BoxAt.new (w.alloc (.cells #[.slice A L.length c, .int .i64 z] 47)) 25 [.int .i64 m, .int .i64 d, .int .i64 k, .int .i64 x]) (.cells #[.slice none 0 0, .int .i64 0] 47))
    have h2 : BoxAt (((w.alloc (.cells #[.slice A L.length c, .int .i64 z] 47)).alloc (.cells #[.int .i64 m, .int .i64 d, .int .i64 k, .int .i64 x] 25)).alloc (.cells #[.slice none 0 0, .int .i64 0] 47)) (w.heap.size + 1 + 1) 47 [.slice none 0 0, .int .i64 0] := by simpa using (BoxAt.new ((w.alloc (.cells #[.slice A L.length c, .int .i64 z] 47)).alloc (.cells #[.int .i64 m, .int .i64 d, .int .i64 k, .int .i64 x] 25)) 47 [.slice none 0 0, .int .i64 0])
    have hs0 := (Same.alloc (Same.alloc (Same.alloc (Same.refl w) (.cells #[.slice A L.length c, .int .i64 z] 47)) (.cells #[.int .i64 m, .int .i64 d, .int .i64 k, .int .i64 x] 25)) (.cells #[.slice none 0 0, .int .i64 0] 47))
    generalize (((w.alloc (.cells #[.slice A L.length c, .int .i64 z] 47)).alloc (.cells #[.int .i64 m, .int .i64 d, .int .i64 k, .int .i64 x] 25)).alloc (.cells #[.slice none 0 0, .int .i64 0] 47)) = w0 at *
    have n0 := hs0.size
    have n2 := h2.lt
    have b0 := h1.cell 0 rfl
    have y0 := h3.cell 0 rfl
    have y1 := h3.cell 1 rfl
    have y2 := h3.cell 2 rfl
    have y3 := h3.cell 3 rfl
    go_wp2_with fail
    refine (iPost_any A c L m d k x _ (by omega) (hA.same hs0)).mono ?_
    rw [HPO.out.1, HPO.out.2]
    rintro e w1 ⟨A1, c1, rfl, ho, hs1⟩
    clear b0 y0 y1 y2 y3
    have h4 := BoxAt.new w1 38 [.slice A1 M.length c1]
    have al := (Same.refl w1).alloc (.cells #[.slice A1 M.length c1] 38)
    have S2 := hs1.trans al
    have ho1 := ho.same al
    have b0 := (h1.same S2).cell 0 rfl
    have b1 := (h1.same S2).cell 1 rfl
    go_wp2_with fail
    generalize w1.alloc (.cells #[.slice A1 M.length c1] 38) = w2 at *
    refine (iBooksOk_any A c L z _ (by omega) ((hA.same hs0).same S2)).mono ?_
    rw [HOK.out]
    rintro e w3 ⟨rfl, hs3⟩
    clear b0 b1
    have S3 := S2.trans hs3
    have b1 := (h1.same S3).cell 1 rfl
    have y0 := (h3.same S3).cell 0 rfl
    have c40 := (h4.same hs3).cell 0 rfl
    have k2 := h2.same S3
    have c20 := k2.cell 0 rfl
    have c21 := k2.cell 1 rfl
    have f20 := k2.frozen 0
    have f21 := k2.frozen 1
    have x4 := (k2.set 0 (.slice A1 M.length c1)).set 1 (.int .i64 z)
    have x0 := x4.cell 0 rfl
    have x1 := x4.cell 1 rfl
    have o3 := ho1.same hs3
    have zo := OwnR.zn ho
    have n1 := hs1.size
    go_wp2
    exact bodyPost_ret (v := .tuple #[.agg #[.slice A1 M.length c1, .int .i64 z], .bool true]) (by simp [results, Try.results47, go_sem, x0, x1]) rfl
      ⟨A1, c1, rfl, OwnR.rebase (OwnR.upd (OwnR.upd o3 (upd_setCell _ _ _ _) zo (.inr (by omega))) (upd_setCell _ _ _ _) zo (.inr (by omega))) (by omega), (((hs0.trans S3)).setCell (by simp; omega) _).setCell (by simp; omega) _⟩
  · rw [if_neg hmz, show (decide (z ≤ m)) = false by simpa using hmz]
    go_enter Try.func47, Try.ntmps47
    go_wp2_with fail
    have h1 : BoxAt (((w.alloc (.cells #[.slice A L.length c, .int .i64 z] 47)).alloc (.cells #[.int .i64 m, .int .i64 d, .int .i64 k, .int .i64 x] 25)).alloc (.cells #[.slice none 0 0, .int .i64 0] 47)) (w.heap.size) 47 [.slice A L.length c, .int .i64 z] := by simpa using (BoxAt.alloc (BoxAt.alloc (BoxAt.new w 47 [.slice A L.length c, .int .i64 z]) (.cells #[.int .i64 m, .int .i64 d, .int .i64 k, .int .i64 x] 25)) (.cells #[.slice none 0 0, .int .i64 0] 47))
    have h3 : BoxAt (((w.alloc (.cells #[.slice A L.length c, .int .i64 z] 47)).alloc (.cells #[.int .i64 m, .int .i64 d, .int .i64 k, .int .i64 x] 25)).alloc (.cells #[.slice none 0 0, .int .i64 0] 47)) (w.heap.size + 1) 25 [.int .i64 m, .int .i64 d, .int .i64 k, .int .i64 x] := by simpa using (BoxAt.alloc (BoxAt.new (w.alloc (.cells #[.slice A L.length c, .int .i64 z] 47)) 25 [.int .i64 m, .int .i64 d, .int .i64 k, .int .i64 x]) (.cells #[.slice none 0 0, .int .i64 0] 47))
    have h2 : BoxAt (((w.alloc (.cells #[.slice A L.length c, .int .i64 z] 47)).alloc (.cells #[.int .i64 m, .int .i64 d, .int .i64 k, .int .i64 x] 25)).alloc (.cells #[.slice none 0 0, .int .i64 0] 47)) (w.heap.size + 1 + 1) 47 [.slice none 0 0, .int .i64 0] := by simpa using (BoxAt.new ((w.alloc (.cells #[.slice A L.length c, .int .i64 z] 47)).alloc (.cells #[.int .i64 m, .int .i64 d, .int .i64 k, .int .i64 x] 25)) 47 [.slice none 0 0, .int .i64 0])
    have hs0 := (Same.alloc (Same.alloc (Same.alloc (Same.refl w) (.cells #[.slice A L.length c, .int .i64 z] 47)) (.cells #[.int .i64 m, .int .i64 d, .int .i64 k, .int .i64 x] 25)) (.cells #[.slice none 0 0, .int .i64 0] 47))
    generalize (((w.alloc (.cells #[.slice A L.length c, .int .i64 z] 47)).alloc (.cells #[.int .i64 m, .int .i64 d, .int .i64 k, .int .i64 x] 25)).alloc (.cells #[.slice none 0 0, .int .i64 0] 47)) = w0 at *
    have n0 := hs0.size
    have n2 := h2.lt
    have b0 := h1.cell 0 rfl
    have y0 := h3.cell 0 rfl
    have y1 := h3.cell 1 rfl
    have y2 := h3.cell 2 rfl
    have y3 := h3.cell 3 rfl
    go_wp2_with fail
    refine (iPost_any A c L m d k x _ (by omega) (hA.same hs0)).mono ?_
    rw [HPO.out.1, HPO.out.2]
    rintro e w1 ⟨A1, c1, rfl, ho, hs1⟩
    clear b0 y0 y1 y2 y3
    have h4 := BoxAt.new w1 38 [.slice A1 M.length c1]
    have al := (Same.refl w1).alloc (.cells #[.slice A1 M.length c1] 38)
    have S2 := hs1.trans al
    have ho1 := ho.same al
    have b0 := (h1.same S2).cell 0 rfl
    have b1 := (h1.same S2).cell 1 rfl
    go_wp2_with fail
    generalize w1.alloc (.cells #[.slice A1 M.length c1] 38) = w2 at *
    refine (iBooksOk_any A c L z _ (by omega) ((hA.same hs0).same S2)).mono ?_
    rw [HOK.out]
    rintro e w3 ⟨rfl, hs3⟩
    clear b0 b1
    have S3 := S2.trans hs3
    have b0 := (h1.same S3).cell 0 rfl
    have b1 := (h1.same S3).cell 1 rfl
    have y0 := (h3.same S3).cell 0 rfl
    go_wp2_with fail
    refine (copyBooks_any A c L z _ (by omega) ((hA.same hs0).same S3)).mono ?_
    rintro e w4 ⟨A4, c4, rfl, ho4, hs4⟩
    have S4 := S3.trans hs4
    have k2 := h2.same S4
    have c20 := k2.cell 0 rfl
    have c21 := k2.cell 1 rfl
    have f20 := k2.frozen 0
    have f21 := k2.frozen 1
    have x4 := (k2.set 0 (.slice A4 L.length c4)).set 1 (.int .i64 z)
    have x0 := x4.cell 0 rfl
    have x1 := x4.cell 1 rfl
    have zo := OwnR.zn ho4
    have n3 := S3.size
    go_wp2
    exact bodyPost_ret (v := .tuple #[.agg #[.slice A4 L.length c4, .int .i64 z], .bool false]) (by simp [results, Try.results47, go_sem, x0, x1]) rfl
      ⟨A4, c4, rfl, OwnR.rebase (OwnR.upd (OwnR.upd ho4 (upd_setCell _ _ _ _) zo (.inr (by omega))) (upd_setCell _ _ _ _) zo (.inr (by omega))) (by omega), (((hs0.trans S4)).setCell (by simp; omega) _).setCell (by simp; omega) _⟩

set_option maxHeartbeats 1000000 in
/-- PostLate of a valid posting into valid books. -/
theorem iPostLate_yes (A : Option Addr) (c : Nat) (L : List TPosting) (z m n d k x : Int) (w : World) (hl : L.length ≤ 200) (hok : ledgerOk L = true) (hz0 : 0 ≤ z) (hz1 : z ≤ 3599) (hp : postingOk (m, d, k, x) = true) (hn : n = max m z) (hA : AtPosting w A L) :
    Calls Try.prog 48 #[.agg #[.slice A L.length c, .int .i64 z], .agg #[.int .i64 m, .int .i64 d, .int .i64 k, .int .i64 x]] w (RetBooksXY w (L ++ [(n, d, k, x)]) z (.int .i64 n) (.bool true)) := by
  obtain ⟨M, hM⟩ : ∃ M, M = L ++ [(n, d, k, x)] := ⟨_, rfl⟩
  have hlM : M.length ≤ 201 := by rw [hM]; simp; omega
  have hp2 : postingOk (n, d, k, x) = true := by
    rw [postingOk_iff] at hp ⊢
    refine ⟨by omega, hp.2⟩
  have HPO := Lib.hid (show postOk L (n, d, k, x) = true ∧ postL L (n, d, k, x) = M from by
    have hp1 : ledgerOk (L ++ [(n, d, k, x)]) = true := by
      rw [ledgerOk, Bool.and_eq_true, decide_eq_true_eq] at hok ⊢
      refine ⟨by simp; omega, ?_⟩
      rw [List.all_append, hok.2]
      simp [hp2]
    have h1 : postOk L (n, d, k, x) = true := by rw [postOk, hok, hp1]; rfl
    exact ⟨h1, by rw [postL, h1, hM]; rfl⟩)
  rw [← hM]
  have HOK := Lib.hid (show (ledgerOk L && inB z 0 3599) = true by rw [hok]; simp [inB]; omega)
  have HP := Lib.hid hp
  rcases Int.lt_or_le m z with hmz | hmz
  · have e : n = z := by rw [hn]; omega
    subst e
    clear hok hp hM hp2 hn
    go_enter Try.func48, Try.ntmps48
    go_wp2_with fail
    have h1 : BoxAt (((w.alloc (.cells #[.slice A L.length c, .int .i64 n] 47)).alloc (.cells #[.int .i64 m, .int .i64 d, .int .i64 k, .int .i64 x] 25)).alloc (.cells #[.slice none 0 0, .int .i64 0] 47)) (w.heap.size) 47 [.slice A L.length c, .int .i64 n] := by simpa using (BoxAt.alloc (BoxAt.alloc (BoxAt.new w 47 [.slice A L.length c, .int .i64 n]) (.cells #[.int .i64 m, .int .i64 d, .int .i64 k, .int .i64 x] 25)) (.cells #[.slice none 0 0, .int .i64 0] 47))
    have h3 : BoxAt (((w.alloc (.cells #[.slice A L.length c, .int .i64 n] 47)).alloc (.cells #[.int .i64 m, .int .i64 d, .int .i64 k, .int .i64 x] 25)).alloc (.cells #[.slice none 0 0, .int .i64 0] 47)) (w.heap.size + 1) 25 [.int .i64 m, .int .i64 d, .int .i64 k, .int .i64 x] := by simpa using (BoxAt.alloc (BoxAt.new (w.alloc (.cells #[.slice A L.length c, .int .i64 n] 47)) 25 [.int .i64 m, .int .i64 d, .int .i64 k, .int .i64 x]) (.cells #[.slice none 0 0, .int .i64 0] 47))
    have h2 : BoxAt (((w.alloc (.cells #[.slice A L.length c, .int .i64 n] 47)).alloc (.cells #[.int .i64 m, .int .i64 d, .int .i64 k, .int .i64 x] 25)).alloc (.cells #[.slice none 0 0, .int .i64 0] 47)) (w.heap.size + 1 + 1) 47 [.slice none 0 0, .int .i64 0] := by simpa using (BoxAt.new ((w.alloc (.cells #[.slice A L.length c, .int .i64 n] 47)).alloc (.cells #[.int .i64 m, .int .i64 d, .int .i64 k, .int .i64 x] 25)) 47 [.slice none 0 0, .int .i64 0])
    have hs0 := (Same.alloc (Same.alloc (Same.alloc (Same.refl w) (.cells #[.slice A L.length c, .int .i64 n] 47)) (.cells #[.int .i64 m, .int .i64 d, .int .i64 k, .int .i64 x] 25)) (.cells #[.slice none 0 0, .int .i64 0] 47))
    generalize (((w.alloc (.cells #[.slice A L.length c, .int .i64 n] 47)).alloc (.cells #[.int .i64 m, .int .i64 d, .int .i64 k, .int .i64 x] 25)).alloc (.cells #[.slice none 0 0, .int .i64 0] 47)) = w0 at *
    have n0 := hs0.size
    have n2 := h2.lt
    have b0 := h1.cell 0 rfl
    have b1 := h1.cell 1 rfl
    go_wp2_with fail
    refine (iBooksOk_any A c L n _ (by omega) (hA.same hs0)).mono ?_
    rw [HOK.out]
    rintro e v1 ⟨rfl, t1⟩
    clear b0 b1
    have y0 := (h3.same t1).cell 0 rfl
    have y1 := (h3.same t1).cell 1 rfl
    have y2 := (h3.same t1).cell 2 rfl
    have y3 := (h3.same t1).cell 3 rfl
    go_wp2_with fail
    refine (iPostingOk_any m d k x _).mono ?_
    rw [HP.out]
    rintro e v2 ⟨rfl, t2⟩
    have T2 := t1.trans t2
    replace h1 := h1.same T2
    replace h2 := h2.same T2
    replace h3 := h3.same T2
    replace hs0 := hs0.trans T2
    clear y0 y1 y2 y3 t1 t2
    have y0 := h3.cell 0 rfl
    have f0 := h3.frozen 0
    have b1 := h1.cell 1 rfl
    have n3 := h2.lt
    replace h3 := h3.set 0 (.int .i64 n)
    replace h1 := h1.other (k := w.heap.size + 1) (j := 0) (.int .i64 n) (by omega)
    replace h2 := h2.other (k := w.heap.size + 1) (j := 0) (.int .i64 n) (by omega)
    replace hs0 := hs0.setCell (p := ⟨w.heap.size + 1, 0, none⟩) (by simp) (.int .i64 n)
    replace n3 : w.heap.size + 1 + 1 < (v2.setCell ⟨w.heap.size + 1, 0, none⟩ (.int .i64 n)).heap.size := by simp; omega
    have b0 := h1.cell 0 rfl
    have z0 := h3.cell 0 rfl
    have z1 := h3.cell 1 rfl
    have z2 := h3.cell 2 rfl
    have z3 := h3.cell 3 rfl
    go_wp2_with fail
    generalize v2.setCell ⟨w.heap.size + 1, 0, none⟩ (.int .i64 n) = v3 at *
    refine (iPost_any A c L n d k x _ (by omega) (hA.same hs0)).mono ?_
    rw [HPO.out.1, HPO.out.2]
    rintro e w1 ⟨A1, c1, rfl, ho, hs1⟩
    clear b0 b1 y0 f0 z0 z1 z2 z3
    have h4 := BoxAt.new w1 38 [.slice A1 M.length c1]
    have al := (Same.refl w1).alloc (.cells #[.slice A1 M.length c1] 38)
    have S2 := hs1.trans al
    have ho1 := ho.same al
    have zo := OwnR.zn ho
    have n1 := hs1.size
    go_wp2
    generalize w1.alloc (.cells #[.slice A1 M.length c1] 38) = w2 at *
    have b1 := (h1.same S2).cell 1 rfl
    have y0 := (h3.same S2).cell 0 rfl
    have c40 := h4.cell 0 rfl
    have k2 := h2.same S2
    have c20 := k2.cell 0 rfl
    have c21 := k2.cell 1 rfl
    have f20 := k2.frozen 0
    have f21 := k2.frozen 1
    go_region
    all_goals
      have x4 := (k2.set 0 (.slice A1 M.length c1)).set 1 (.int .i64 n)
      have x0 := x4.cell 0 rfl
      have x1 := x4.cell 1 rfl
      go_wp2
      exact bodyPost_ret (v := .tuple #[.agg #[.slice A1 M.length c1, .int .i64 n], .int .i64 n, .bool true]) (by simp [results, Try.results48, go_sem, x0, x1]) rfl
        ⟨A1, c1, rfl, OwnR.rebase (OwnR.same (OwnR.upd (OwnR.upd ho1 (upd_setCell _ _ _ _) zo (.inr (by omega))) (upd_setCell _ _ _ _) zo (.inr (by omega))) (Same.refl _).drew) (by omega), (((hs0.trans S2).setCell (by simp; omega) _).setCell (by simp; omega) _).drew⟩
  · have e : n = m := by rw [hn]; omega
    subst e
    clear hok hp hM hp2 hn
    go_enter Try.func48, Try.ntmps48
    go_wp2_with fail
    have h1 : BoxAt (((w.alloc (.cells #[.slice A L.length c, .int .i64 z] 47)).alloc (.cells #[.int .i64 n, .int .i64 d, .int .i64 k, .int .i64 x] 25)).alloc (.cells #[.slice none 0 0, .int .i64 0] 47)) (w.heap.size) 47 [.slice A L.length c, .int .i64 z] := by simpa using (BoxAt.alloc (BoxAt.alloc (BoxAt.new w 47 [.slice A L.length c, .int .i64 z]) (.cells #[.int .i64 n, .int .i64 d, .int .i64 k, .int .i64 x] 25)) (.cells #[.slice none 0 0, .int .i64 0] 47))
    have h3 : BoxAt (((w.alloc (.cells #[.slice A L.length c, .int .i64 z] 47)).alloc (.cells #[.int .i64 n, .int .i64 d, .int .i64 k, .int .i64 x] 25)).alloc (.cells #[.slice none 0 0, .int .i64 0] 47)) (w.heap.size + 1) 25 [.int .i64 n, .int .i64 d, .int .i64 k, .int .i64 x] := by simpa using (BoxAt.alloc (BoxAt.new (w.alloc (.cells #[.slice A L.length c, .int .i64 z] 47)) 25 [.int .i64 n, .int .i64 d, .int .i64 k, .int .i64 x]) (.cells #[.slice none 0 0, .int .i64 0] 47))
    have h2 : BoxAt (((w.alloc (.cells #[.slice A L.length c, .int .i64 z] 47)).alloc (.cells #[.int .i64 n, .int .i64 d, .int .i64 k, .int .i64 x] 25)).alloc (.cells #[.slice none 0 0, .int .i64 0] 47)) (w.heap.size + 1 + 1) 47 [.slice none 0 0, .int .i64 0] := by simpa using (BoxAt.new ((w.alloc (.cells #[.slice A L.length c, .int .i64 z] 47)).alloc (.cells #[.int .i64 n, .int .i64 d, .int .i64 k, .int .i64 x] 25)) 47 [.slice none 0 0, .int .i64 0])
    have hs0 := (Same.alloc (Same.alloc (Same.alloc (Same.refl w) (.cells #[.slice A L.length c, .int .i64 z] 47)) (.cells #[.int .i64 n, .int .i64 d, .int .i64 k, .int .i64 x] 25)) (.cells #[.slice none 0 0, .int .i64 0] 47))
    generalize (((w.alloc (.cells #[.slice A L.length c, .int .i64 z] 47)).alloc (.cells #[.int .i64 n, .int .i64 d, .int .i64 k, .int .i64 x] 25)).alloc (.cells #[.slice none 0 0, .int .i64 0] 47)) = w0 at *
    have n0 := hs0.size
    have n2 := h2.lt
    have b0 := h1.cell 0 rfl
    have b1 := h1.cell 1 rfl
    go_wp2_with fail
    refine (iBooksOk_any A c L z _ (by omega) (hA.same hs0)).mono ?_
    rw [HOK.out]
    rintro e v1 ⟨rfl, t1⟩
    clear b0 b1
    have y0 := (h3.same t1).cell 0 rfl
    have y1 := (h3.same t1).cell 1 rfl
    have y2 := (h3.same t1).cell 2 rfl
    have y3 := (h3.same t1).cell 3 rfl
    go_wp2_with fail
    refine (iPostingOk_any n d k x _).mono ?_
    rw [HP.out]
    rintro e v2 ⟨rfl, t2⟩
    have T2 := t1.trans t2
    replace h1 := h1.same T2
    replace h2 := h2.same T2
    replace h3 := h3.same T2
    replace hs0 := hs0.trans T2
    clear y0 y1 y2 y3 t1 t2
    have y0 := h3.cell 0 rfl
    have f0 := h3.frozen 0
    have b1 := h1.cell 1 rfl
    have n3 := h2.lt
    replace h3 := h3.set 0 (.int .i64 n)
    replace h1 := h1.other (k := w.heap.size + 1) (j := 0) (.int .i64 n) (by omega)
    replace h2 := h2.other (k := w.heap.size + 1) (j := 0) (.int .i64 n) (by omega)
    replace hs0 := hs0.setCell (p := ⟨w.heap.size + 1, 0, none⟩) (by simp) (.int .i64 n)
    replace n3 : w.heap.size + 1 + 1 < (v2.setCell ⟨w.heap.size + 1, 0, none⟩ (.int .i64 n)).heap.size := by simp; omega
    have b0 := h1.cell 0 rfl
    have z0 := h3.cell 0 rfl
    have z1 := h3.cell 1 rfl
    have z2 := h3.cell 2 rfl
    have z3 := h3.cell 3 rfl
    go_wp2_with fail
    generalize v2.setCell ⟨w.heap.size + 1, 0, none⟩ (.int .i64 n) = v3 at *
    refine (iPost_any A c L n d k x _ (by omega) (hA.same hs0)).mono ?_
    rw [HPO.out.1, HPO.out.2]
    rintro e w1 ⟨A1, c1, rfl, ho, hs1⟩
    clear b0 b1 y0 f0 z0 z1 z2 z3
    have h4 := BoxAt.new w1 38 [.slice A1 M.length c1]
    have al := (Same.refl w1).alloc (.cells #[.slice A1 M.length c1] 38)
    have S2 := hs1.trans al
    have ho1 := ho.same al
    have zo := OwnR.zn ho
    have n1 := hs1.size
    go_wp2
    generalize w1.alloc (.cells #[.slice A1 M.length c1] 38) = w2 at *
    have b1 := (h1.same S2).cell 1 rfl
    have y0 := (h3.same S2).cell 0 rfl
    have c40 := h4.cell 0 rfl
    have k2 := h2.same S2
    have c20 := k2.cell 0 rfl
    have c21 := k2.cell 1 rfl
    have f20 := k2.frozen 0
    have f21 := k2.frozen 1
    go_region
    all_goals
      have x4 := (k2.set 0 (.slice A1 M.length c1)).set 1 (.int .i64 z)
      have x0 := x4.cell 0 rfl
      have x1 := x4.cell 1 rfl
      go_wp2
      exact bodyPost_ret (v := .tuple #[.agg #[.slice A1 M.length c1, .int .i64 z], .int .i64 n, .bool true]) (by simp [results, Try.results48, go_sem, x0, x1]) rfl
        ⟨A1, c1, rfl, OwnR.rebase (OwnR.same (OwnR.upd (OwnR.upd ho1 (upd_setCell _ _ _ _) zo (.inr (by omega))) (upd_setCell _ _ _ _) zo (.inr (by omega))) (Same.refl _).drew) (by omega), (((hs0.trans S2).setCell (by simp; omega) _).setCell (by simp; omega) _).drew⟩
end Go.Proofs.Ythelclibokkdnaa
