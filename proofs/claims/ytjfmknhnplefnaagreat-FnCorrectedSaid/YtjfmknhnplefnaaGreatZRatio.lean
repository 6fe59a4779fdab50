/-
  Ratios of an index at two months.
-/
import Derived.Test.YtjfmknhnplefnaaGreatZIndexAt
import Derived.Test.YtjfmknhnplefnaaGreatZFracI
namespace Go.Proofs.YtjfmknhnplefnaaGreat
open Go.RowKit
set_option linter.unusedVariables false
set_option linter.unusedSimpArgs false

set_option maxRecDepth 10000 in
set_option maxHeartbeats 2000000 in
theorem sIndexRatio_any (A : Option Addr) (c : Nat) (P : List TPoint) (a b known : Int) (w : World) (hz : P.length ≤ 1048576) (hA : AtPoint w A P) :
    Calls Tryz.prog 137 #[.agg #[.slice A P.length c], .int .i64 a, .int .i64 b, .int .i64 known] w fun e w' => e = .returned (.tuple #[.agg #[.int .i64 (indexRatio P a b known).1, .int .i64 (indexRatio P a b known).2.1], .bool (indexRatio P a b known).2.2]) ∧ Same w w' := by
  have HR := Lib.hid (show indexRatio P a b known = if (indexAt P a known).2 && (indexAt P b known).2 then fracNew (indexAt P b known).1 (indexAt P a known).1 else (0, 0, false) from rfl)
  have q1 := Lib.hid (fun w h => sIndexAt_any A c P a known w hz h)
  have q2 := Lib.hid (fun w h => sIndexAt_any A c P b known w hz h)
  obtain ⟨x, hx⟩ : ∃ x, x = (indexAt P a known).1 := ⟨_, rfl⟩
  obtain ⟨y, hy⟩ : ∃ y, y = (indexAt P b known).1 := ⟨_, rfl⟩
  obtain ⟨o1, ho1⟩ : ∃ x, x = (indexAt P a known).2 := ⟨_, rfl⟩
  obtain ⟨o2, ho2⟩ : ∃ x, x = (indexAt P b known).2 := ⟨_, rfl⟩
  rw [← hx, ← ho1] at q1
  rw [← hy, ← ho2] at q2
  rw [← hx, ← hy, ← ho1, ← ho2] at HR
  clear hx hy ho1 ho2
  go_enter Tryz.func137, Tryz.ntmps137
  go_wp2_with fail
  have h1 : BoxAt ((w.alloc (.cells #[.slice A P.length c] 32)).alloc (.cells #[.int .i64 0, .int .i64 0] 101)) (w.heap.size) 32 [.slice A P.length c] := by simpa using (BoxAt.alloc (BoxAt.new w 32 [.slice A P.length c]) (.cells #[.int .i64 0, .int .i64 0] 101))
  have h2 : BoxAt ((w.alloc (.cells #[.slice A P.length c] 32)).alloc (.cells #[.int .i64 0, .int .i64 0] 101)) (w.heap.size + 1) 101 [.int .i64 0, .int .i64 0] := by simpa using (BoxAt.new (w.alloc (.cells #[.slice A P.length c] 32)) 101 [.int .i64 0, .int .i64 0])
  have hs0 := (Same.alloc (Same.alloc (Same.refl w) (.cells #[.slice A P.length c] 32)) (.cells #[.int .i64 0, .int .i64 0] 101))
  generalize ((w.alloc (.cells #[.slice A P.length c] 32)).alloc (.cells #[.int .i64 0, .int .i64 0] 101)) = w0 at *
  refine (q1.out _ (hA.same hs0)).mono ?_
  rintro e w1 ⟨rfl, hs1⟩
  have b0 := (h1.same hs1).cell 0 rfl
  go_wp2_with fail
  refine (q2.out _ ((hA.same hs0).same hs1)).mono ?_
  rintro e w2 ⟨rfl, hs2⟩
  clear b0 q1 q2
  replace h2 := (h2.same hs1).same hs2
  have S2 := (hs0.trans hs1).trans hs2
  clear hs0 hs1 hs2
  have x0 := h2.cell 0 rfl
  have x1 := h2.cell 1 rfl
  have xf0 := h2.frozen 0
  have xf1 := h2.frozen 1
  have xL := h2.lt
  cases o1
  · have HV := Lib.hid (show indexRatio P a b known = (0, 0, false) by rw [HR.out]; rfl)
    go_wp2
    have h9 := (h2.set 0 (.int .i64 0)).set 1 (.int .i64 0)
    have S9 := (S2.setCell (p := ⟨(w.heap.size + 1), 0, none⟩) (show w.heap.size ≤ w.heap.size + 1 by omega) (.int .i64 0)).setCell (p := ⟨(w.heap.size + 1), 1, none⟩) (show w.heap.size ≤ w.heap.size + 1 by omega) (.int .i64 0)
    generalize (w2.setCell ⟨(w.heap.size + 1), 0, none⟩ (.int .i64 0)).setCell ⟨(w.heap.size + 1), 1, none⟩ (.int .i64 0) = w9 at *
    have z0 := h9.cell 0 rfl
    have z1 := h9.cell 1 rfl
    exact bodyPost_ret (v := .tuple #[.agg #[.int .i64 0, .int .i64 0], .bool false]) (by simp [results, Tryz.results137, go_sem, z0, z1]) rfl ⟨by rw [HV.out], S9⟩
  cases o2
  · have HV := Lib.hid (show indexRatio P a b known = (0, 0, false) by rw [HR.out]; rfl)
    go_wp2
    have h9 := (h2.set 0 (.int .i64 0)).set 1 (.int .i64 0)
    have S9 := (S2.setCell (p := ⟨(w.heap.size + 1), 0, none⟩) (show w.heap.size ≤ w.heap.size + 1 by omega) (.int .i64 0)).setCell (p := ⟨(w.heap.size + 1), 1, none⟩) (show w.heap.size ≤ w.heap.size + 1 by omega) (.int .i64 0)
    generalize (w2.setCell ⟨(w.heap.size + 1), 0, none⟩ (.int .i64 0)).setCell ⟨(w.heap.size + 1), 1, none⟩ (.int .i64 0) = w9 at *
    have z0 := h9.cell 0 rfl
    have z1 := h9.cell 1 rfl
    exact bodyPost_ret (v := .tuple #[.agg #[.int .i64 0, .int .i64 0], .bool false]) (by simp [results, Tryz.results137, go_sem, z0, z1]) rfl ⟨by rw [HV.out], S9⟩
  have HV := Lib.hid (show indexRatio P a b known = fracNew y x by rw [HR.out]; rfl)
  go_wp2_with fail
  refine (sFracNew_any y x _).mono ?_
  rw [← HV.out]
  rintro e w3 ⟨rfl, hs3⟩
  replace h2 := h2.same hs3
  have S3 := S2.trans hs3
  clear x0 x1 xf0 xf1 xL
  have x0 := h2.cell 0 rfl
  have x1 := h2.cell 1 rfl
  have xf0 := h2.frozen 0
  have xf1 := h2.frozen 1
  have xL := h2.lt
  go_wp2
  have h9 := (h2.set 0 (.int .i64 (indexRatio P a b known).1)).set 1 (.int .i64 (indexRatio P a b known).2.1)
  have S9 := (S3.setCell (p := ⟨(w.heap.size + 1), 0, none⟩) (show w.heap.size ≤ w.heap.size + 1 by omega) (.int .i64 (indexRatio P a b known).1)).setCell (p := ⟨(w.heap.size + 1), 1, none⟩) (show w.heap.size ≤ w.heap.size + 1 by omega) (.int .i64 (indexRatio P a b known).2.1)
  generalize (w3.setCell ⟨(w.heap.size + 1), 0, none⟩ (.int .i64 (indexRatio P a b known).1)).setCell ⟨(w.heap.size + 1), 1, none⟩ (.int .i64 (indexRatio P a b known).2.1) = w9 at *
  have z0 := h9.cell 0 rfl
  have z1 := h9.cell 1 rfl
  exact bodyPost_ret (v := .tuple #[.agg #[.int .i64 (indexRatio P a b known).1, .int .i64 (indexRatio P a b known).2.1], .bool (indexRatio P a b known).2.2]) (by simp [results, Tryz.results137, go_sem, z0, z1]) rfl ⟨rfl, S9⟩

set_option maxRecDepth 10000 in
set_option maxHeartbeats 2000000 in
theorem iIndexRatio_any (A : Option Addr) (c : Nat) (P : List TPoint) (a b known : Int) (w : World) (hz : P.length ≤ 1048576) (hA : AtPoint w A P) :
    Calls Tryz.prog 60 #[.agg #[.slice A P.length c], .int .i64 a, .int .i64 b, .int .i64 known] w fun e w' => e = .returned (.tuple #[.agg #[.int .i64 (indexRatio P a b known).1, .int .i64 (indexRatio P a b known).2.1], .bool (indexRatio P a b known).2.2]) ∧ Same w w' := by
  have HR := Lib.hid (show indexRatio P a b known = if (indexAt P a known).2 && (indexAt P b known).2 then fracNew (indexAt P b known).1 (indexAt P a known).1 else (0, 0, false) from rfl)
  have q1 := Lib.hid (fun w h => iIndexAt_any A c P a known w hz h)
  have q2 := Lib.hid (fun w h => iIndexAt_any A c P b known w hz h)
  obtain ⟨x, hx⟩ : ∃ x, x = (indexAt P a known).1 := ⟨_, rfl⟩
  obtain ⟨y, hy⟩ : ∃ y, y = (indexAt P b known).1 := ⟨_, rfl⟩
  obtain ⟨o1, ho1⟩ : ∃ x, x = (indexAt P a known).2 := ⟨_, rfl⟩
  obtain ⟨o2, ho2⟩ : ∃ x, x = (indexAt P b known).2 := ⟨_, rfl⟩
  rw [← hx, ← ho1] at q1
  rw [← hy, ← ho2] at q2
  rw [← hx, ← hy, ← ho1, ← ho2] at HR
  clear hx hy ho1 ho2
  go_enter Tryz.func60, Tryz.ntmps60
  go_wp2_with fail
  have h1 : BoxAt ((w.alloc (.cells #[.slice A P.length c] 32)).alloc (.cells #[.int .i64 0, .int .i64 0] 101)) (w.heap.size) 32 [.slice A P.length c] := by simpa using (BoxAt.alloc (BoxAt.new w 32 [.slice A P.length c]) (.cells #[.int .i64 0, .int .i64 0] 101))
  have h2 : BoxAt ((w.alloc (.cells #[.slice A P.length c] 32)).alloc (.cells #[.int .i64 0, .int .i64 0] 101)) (w.heap.size + 1) 101 [.int .i64 0, .int .i64 0] := by simpa using (BoxAt.new (w.alloc (.cells #[.slice A P.length c] 32)) 101 [.int .i64 0, .int .i64 0])
  have hs0 := (Same.alloc (Same.alloc (Same.refl w) (.cells #[.slice A P.length c] 32)) (.cells #[.int .i64 0, .int .i64 0] 101))
  generalize ((w.alloc (.cells #[.slice A P.length c] 32)).alloc (.cells #[.int .i64 0, .int .i64 0] 101)) = w0 at *
  refine (q1.out _ (hA.same hs0)).mono ?_
  rintro e w1 ⟨rfl, hs1⟩
  have b0 := (h1.same hs1).cell 0 rfl
  go_wp2_with fail
  refine (q2.out _ ((hA.same hs0).same hs1)).mono ?_
  rintro e w2 ⟨rfl, hs2⟩
  clear b0 q1 q2
  replace h2 := (h2.same hs1).same hs2
  have S2 := (hs0.trans hs1).trans hs2
  clear hs0 hs1 hs2
  have x0 := h2.cell 0 rfl
  have x1 := h2.cell 1 rfl
  have xf0 := h2.frozen 0
  have xf1 := h2.frozen 1
  have xL := h2.lt
  cases o1
  · have HV := Lib.hid (show indexRatio P a b known = (0, 0, false) by rw [HR.out]; rfl)
    go_wp2
    have h9 := (h2.set 0 (.int .i64 0)).set 1 (.int .i64 0)
    have S9 := (S2.setCell (p := ⟨(w.heap.size + 1), 0, none⟩) (show w.heap.size ≤ w.heap.size + 1 by omega) (.int .i64 0)).setCell (p := ⟨(w.heap.size + 1), 1, none⟩) (show w.heap.size ≤ w.heap.size + 1 by omega) (.int .i64 0)
    generalize (w2.setCell ⟨(w.heap.size + 1), 0, none⟩ (.int .i64 0)).setCell ⟨(w.heap.size + 1), 1, none⟩ (.int .i64 0) = w9 at *
    have z0 := h9.cell 0 rfl
    have z1 := h9.cell 1 rfl
    exact bodyPost_ret (v := .tuple #[.agg #[.int .i64 0, .int .i64 0], .bool false]) (by simp [results, Tryz.results60, go_sem, z0, z1]) rfl ⟨by rw [HV.out], S9⟩
  cases o2
  · have HV := Lib.hid (show indexRatio P a b known = (0, 0, false) by rw [HR.out]; rfl)
    go_wp2
    have h9 := (h2.set 0 (.int .i64 0)).set 1 (.int .i64 0)
    have S9 := (S2.setCell (p := ⟨(w.heap.size + 1), 0, none⟩) (show w.heap.size ≤ w.heap.size + 1 by omega) (.int .i64 0)).setCell (p := ⟨(w.heap.size + 1), 1, none⟩) (show w.heap.size ≤ w.heap.size + 1 by omega) (.int .i64 0)
    generalize (w2.setCell ⟨(w.heap.size + 1), 0, none⟩ (.int .i64 0)).setCell ⟨(w.heap.size + 1), 1, none⟩ (.int .i64 0) = w9 at *
    have z0 := h9.cell 0 rfl
    have z1 := h9.cell 1 rfl
    exact bodyPost_ret (v := .tuple #[.agg #[.int .i64 0, .int .i64 0], .bool false]) (by simp [results, Tryz.results60, go_sem, z0, z1]) rfl ⟨by rw [HV.out], S9⟩
  have HV := Lib.hid (show indexRatio P a b known = fracNew y x by rw [HR.out]; rfl)
  go_wp2_with fail
  refine (iFracNew_any y x _).mono ?_
  rw [← HV.out]
  rintro e w3 ⟨rfl, hs3⟩
  replace h2 := h2.same hs3
  have S3 := S2.trans hs3
  clear x0 x1 xf0 xf1 xL
  have x0 := h2.cell 0 rfl
  have x1 := h2.cell 1 rfl
  have xf0 := h2.frozen 0
  have xf1 := h2.frozen 1
  have xL := h2.lt
  go_wp2
  have h9 := (h2.set 0 (.int .i64 (indexRatio P a b known).1)).set 1 (.int .i64 (indexRatio P a b known).2.1)
  have S9 := (S3.setCell (p := ⟨(w.heap.size + 1), 0, none⟩) (show w.heap.size ≤ w.heap.size + 1 by omega) (.int .i64 (indexRatio P a b known).1)).setCell (p := ⟨(w.heap.size + 1), 1, none⟩) (show w.heap.size ≤ w.heap.size + 1 by omega) (.int .i64 (indexRatio P a b known).2.1)
  generalize (w3.setCell ⟨(w.heap.size + 1), 0, none⟩ (.int .i64 (indexRatio P a b known).1)).setCell ⟨(w.heap.size + 1), 1, none⟩ (.int .i64 (indexRatio P a b known).2.1) = w9 at *
  have z0 := h9.cell 0 rfl
  have z1 := h9.cell 1 rfl
  exact bodyPost_ret (v := .tuple #[.agg #[.int .i64 (indexRatio P a b known).1, .int .i64 (indexRatio P a b known).2.1], .bool (indexRatio P a b known).2.2]) (by simp [results, Tryz.results60, go_sem, z0, z1]) rfl ⟨rfl, S9⟩
end Go.Proofs.YtjfmknhnplefnaaGreat
