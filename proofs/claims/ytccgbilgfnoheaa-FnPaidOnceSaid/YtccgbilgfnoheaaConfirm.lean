/-
  Confirm.
-/
import Derived.Test.YtccgbilgfnoheaaCopy
namespace Go.Proofs.Ytccgbilgfnoheaa
open Go.RowKit

set_option maxHeartbeats 1000000 in
theorem copyRun_any (m : Int) (A : Option Addr) (c : Nat) (L : List TItem) (w : World) (hz : L.length ≤ 1000000000) (hA : AtItem w A L) :
    Calls Try.prog 53 #[.agg #[.int .i64 m, .slice A L.length c]] w (RetRun w m L) := by
  go_enter Try.func53, Try.ntmps53
  go_wp2_with fail
  have h1 : BoxAt ((w.alloc (.cells #[.int .i64 m, .slice A L.length c] 26)).alloc (.cells #[.int .i64 0, .slice none 0 0] 26)) (w.heap.size) 26 [.int .i64 m, .slice A L.length c] := by simpa using (BoxAt.alloc (BoxAt.new w 26 [.int .i64 m, .slice A L.length c]) (.cells #[.int .i64 0, .slice none 0 0] 26))
  have h2 : BoxAt ((w.alloc (.cells #[.int .i64 m, .slice A L.length c] 26)).alloc (.cells #[.int .i64 0, .slice none 0 0] 26)) (w.heap.size + 1) 26 [.int .i64 0, .slice none 0 0] := by simpa using (BoxAt.new (w.alloc (.cells #[.int .i64 m, .slice A L.length c] 26)) 26 [.int .i64 0, .slice none 0 0])
  have hs0 := (Same.alloc (Same.alloc (Same.refl w) (.cells #[.int .i64 m, .slice A L.length c] 26)) (.cells #[.int .i64 0, .slice none 0 0] 26))
  generalize ((w.alloc (.cells #[.int .i64 m, .slice A L.length c] 26)).alloc (.cells #[.int .i64 0, .slice none 0 0] 26)) = w0 at *
  refine (cloneItem_any A c L _ hz (hA.same hs0)).mono ?_
  rintro e w1 ⟨A1, c1, rfl, ho, hs1⟩
  have hlt := h2.lt
  have hlt' := hs1.size
  replace h1 := h1.same hs1
  replace h2 := h2.same hs1
  have c10 := h1.cell 0 rfl
  have f10 := h1.frozen 0
  have c11 := h1.cell 1 rfl
  have f11 := h1.frozen 1
  have c20 := h2.cell 0 rfl
  have f20 := h2.frozen 0
  have c21 := h2.cell 1 rfl
  have f21 := h2.frozen 1
  have k1 := h1.set 1 (.slice A1 L.length c1)
  have k2 := ((h2.other (k := w.heap.size) (j := 1) (.slice A1 L.length c1) (by omega)).set 0 (.int .i64 m)).set 1 (.slice A1 L.length c1)
  have x10 := k1.cell 0 rfl
  have x11 := k1.cell 1 rfl
  have cf0 := k2.cell 0 rfl
  have cf1 := k2.cell 1 rfl
  go_wp2
  exact bodyPost_ret (v := .agg #[.int .i64 m, .slice A1 L.length c1]) (by simp [results, Try.results53, go_sem, cf0, cf1]) rfl ⟨_, _, rfl,
    ((((ho.rebase hs0.size).upd (upd_setCell _ _ _ _) ho.zn (.inr (by omega))).upd (upd_setCell _ _ _ _) ho.zn (.inr (by omega))).upd (upd_setCell _ _ _ _) ho.zn (.inr (by omega))),
    (((hs0.trans hs1).setCell (by simp) _).setCell (by simp) _).setCell (by simp) _⟩

set_option maxHeartbeats 1000000 in
theorem l25Run_any (m : Int) (A : Option Addr) (c : Nat) (L : List TItem) (w : World) (hz : L.length ≤ 1000000000) (hA : AtItem w A L) (hn : A = none → c = 0) :
    Calls Try.prog 76 #[.agg #[.int .i64 m, .slice A L.length c]] w (RetRun w m L) := by
  go_enter Try.func76, Try.ntmps76
  go_wp2
  have h1 : BoxAt ((w.alloc (.cells #[.int .i64 m, .slice A L.length c] 26)).alloc (.cells #[.int .i64 0, .slice none 0 0] 26)) (w.heap.size) 26 [.int .i64 m, .slice A L.length c] := by simpa using (BoxAt.alloc (BoxAt.new w 26 [.int .i64 m, .slice A L.length c]) (.cells #[.int .i64 0, .slice none 0 0] 26))
  have h2 : BoxAt ((w.alloc (.cells #[.int .i64 m, .slice A L.length c] 26)).alloc (.cells #[.int .i64 0, .slice none 0 0] 26)) (w.heap.size + 1) 26 [.int .i64 0, .slice none 0 0] := by simpa using (BoxAt.new (w.alloc (.cells #[.int .i64 m, .slice A L.length c] 26)) 26 [.int .i64 0, .slice none 0 0])
  have hs0 := (Same.alloc (Same.alloc (Same.refl w) (.cells #[.int .i64 m, .slice A L.length c] 26)) (.cells #[.int .i64 0, .slice none 0 0] 26))
  generalize ((w.alloc (.cells #[.int .i64 m, .slice A L.length c] 26)).alloc (.cells #[.int .i64 0, .slice none 0 0] 26)) = w0 at *
  have c10 := h1.cell 0 rfl
  have c11 := h1.cell 1 rfl
  have n0 := hs0.size
  have n2 := h2.lt
  have e0 := (OwnR.empty 41 3 cItem w0 (Nat.le_refl _)).same ((Same.refl _).drew)
  have se := ((Same.refl w0).alloc (.cells #[] 41)).drew
  go_region_held3 (fun w' => w'.cell? ⟨w.heap.size, 0, none⟩ = some (.int .i64 m) ∧ w'.cell? ⟨w.heap.size, 1, none⟩ = some (.slice A L.length c))
    (first | exact ⟨c10, c11⟩ | exact ⟨(h1.same se).cell 0 rfl, (h1.same se).cell 1 rfl⟩ | exact ⟨k1.cell 0 rfl, k1.cell 1 rfl⟩ | exact ⟨((k1.other (k := w.heap.size + 1) (j := 0) _ (by omega)).other (k := w.heap.size + 1) (j := 1) _ (by omega)).cell 0 rfl, ((k1.other (k := w.heap.size + 1) (j := 0) _ (by omega)).other (k := w.heap.size + 1) (j := 1) _ (by omega)).cell 1 rfl⟩)
    ((refine step_allItem _ (by rfl) (.tmp 5) (.tmp 7) (by rfl) w0.heap.size _ [] (by rfl) e0 A c L (by rfl) ((hA.same hs0).same se) hn (by simpa using hz) (by simp) ?_; intro v' w3 ho3 hup hfr; (rw [List.nil_append] at ho3); (obtain ⟨A1, c1, rfl⟩ := ho3.form); (have k1 := grown_box hup (h1.same se) (Sep.box e0 (by omega))); (have k2 := grown_box hup (h2.same se) (Sep.box e0 (by omega))); (have c20 := k2.cell 0 rfl); (have c21 := k2.cell 1 rfl); (have f20 := k2.frozen 0); (have f21 := k2.frozen 1)))
  have k3 := (k2.set 0 (.int .i64 m)).set 1 (.slice A1 L.length c1)
  have cf0 := k3.cell 0 rfl
  have cf1 := k3.cell 1 rfl
  have zo := ho3.zn
  have S3 := grown_same (hs0.trans se) hup (fun g hg => by have := (owns_new e0 g hg).1; omega)
  have n3 := hup.size
  go_wp2
  exact bodyPost_ret (v := .agg #[.int .i64 m, .slice A1 L.length c1]) (by simp [results, Try.results76, go_sem, cf0, cf1]) rfl ⟨_, _, rfl,
    (((ho3.rebase n0).upd (upd_setCell _ _ _ _) zo (.inr (by omega))).upd (upd_setCell _ _ _ _) zo (.inr (by omega))), (S3.setCell (by simp) _).setCell (by simp) _⟩
end Go.Proofs.Ytccgbilgfnoheaa
