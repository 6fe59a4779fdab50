/-
  Copies of banks.
-/
import Derived.Test.YtccgbilgfnoheaaCopy
import Derived.Deep.RegionLaw
namespace Go.Proofs.Ytccgbilgfnoheaa
open Go.RowKit
set_option linter.unusedVariables false

set_option maxHeartbeats 2000000 in
theorem copyBank_any (A : Option Addr) (c : Nat) (K : List Int) (B : Option Addr) (d : Nat) (C : List Int) (w : World) (hz : K.length ≤ 1000000000) (hA : IntsAt w A K) (hz' : C.length ≤ 1000000000) (hB : IntsAt w B C) :
    Calls Try.prog 54 #[.agg #[.slice A K.length c, .slice B C.length d]] w (RetBank w K C) := by
  go_enter Try.func54, Try.ntmps54
  go_wp2
  have h1 : BoxAt ((w.alloc (.cells #[.slice A K.length c, .slice B C.length d] 29)).alloc (.cells #[.slice none 0 0, .slice none 0 0] 29)) (w.heap.size) 29 [.slice A K.length c, .slice B C.length d] := by simpa using (BoxAt.alloc (BoxAt.new w 29 [.slice A K.length c, .slice B C.length d]) (.cells #[.slice none 0 0, .slice none 0 0] 29))
  have h2 : BoxAt ((w.alloc (.cells #[.slice A K.length c, .slice B C.length d] 29)).alloc (.cells #[.slice none 0 0, .slice none 0 0] 29)) (w.heap.size + 1) 29 [.slice none 0 0, .slice none 0 0] := by simpa using (BoxAt.new (w.alloc (.cells #[.slice A K.length c, .slice B C.length d] 29)) 29 [.slice none 0 0, .slice none 0 0])
  have hs0 := (Same.alloc (Same.alloc (Same.refl w) (.cells #[.slice A K.length c, .slice B C.length d] 29)) (.cells #[.slice none 0 0, .slice none 0 0] 29))
  generalize ((w.alloc (.cells #[.slice A K.length c, .slice B C.length d] 29)).alloc (.cells #[.slice none 0 0, .slice none 0 0] 29)) = w0 at *
  have c10 := h1.cell 0 rfl
  have c11 := h1.cell 1 rfl
  have n0 := hs0.size
  have n2 := h2.lt
  go_region_held3 (fun w' => w'.cell? ⟨w.heap.size, 0, none⟩ = some (.slice A K.length c) ∧ w'.cell? ⟨w.heap.size, 1, none⟩ = some (.slice B C.length d))
    (first | exact ⟨c10, c11⟩ | exact ⟨(h1.same ((Same.refl _).drew.trans hsA)).cell 0 rfl, (h1.same ((Same.refl _).drew.trans hsA)).cell 1 rfl⟩ | exact ⟨(h1.same (((Same.refl _).drew.trans hsA).trans hsB)).cell 0 rfl, (h1.same (((Same.refl _).drew.trans hsA).trans hsB)).cell 1 rfl⟩ | exact ⟨(((h1.same (((Same.refl _).drew.trans hsA).trans hsB)).other (k := w.heap.size + 1) (j := 0) _ (by omega)).other (k := w.heap.size + 1) (j := 1) _ (by omega)).cell 0 rfl, (((h1.same (((Same.refl _).drew.trans hsA).trans hsB)).other (k := w.heap.size + 1) (j := 0) _ (by omega)).other (k := w.heap.size + 1) (j := 1) _ (by omega)).cell 1 rfl⟩)
    (first
      | (go_at_call 73; refine (cloneI_any A c K _ hz ((hA.same hs0).same (Same.refl _).drew)).mono ?_; rintro e wA ⟨AK, cK, rfl, hoK, hsA⟩)
      | (go_at_call 73; refine (cloneI_any B d C _ hz' ((hB.same hs0).same ((Same.refl _).drew.trans hsA))).mono ?_; rintro e wB ⟨AC, cC, rfl, hoC, hsB⟩; (have k2 := h2.same (((Same.refl _).drew.trans hsA).trans hsB)); (have z0 := k2.cell 0 rfl); (have z1 := k2.cell 1 rfl); (have f0 := k2.frozen 0); (have f1 := k2.frozen 1)))
  have S3 := ((hs0.trans (Same.refl _).drew).trans hsA).trans hsB
  have hsp : Sep (.slice AK K.length cK) (.slice AC C.length cC) := Sep.new hoK hoC (Nat.le_refl _)
  have k3 := (k2.set 0 (.slice AK K.length cK)).set 1 (.slice AC C.length cC)
  have cf0 := k3.cell 0 rfl
  have cf1 := k3.cell 1 rfl
  have nA := hsA.size
  have hoK' := hoK.same hsB
  have zK := hoK'.zn
  have zC := hoC.zn
  have nA' : w0.heap.size ≤ wA.heap.size := nA
  have zK' : w0.heap.size = w0.drew.heap.size := rfl
  go_wp2
  exact bodyPost_ret (v := .agg #[.slice AK K.length cK, .slice AC C.length cC]) (by simp [results, Try.results54, go_sem, cf0, cf1]) rfl ⟨_, _, _, _, rfl,
    (((hoK'.base n0).upd (upd_setCell _ _ _ _) zK (.inr (by omega))).upd (upd_setCell _ _ _ _) zK (.inr (by omega))),
    (((hoC.base (Nat.le_trans n0 nA')).upd (upd_setCell _ _ _ _) zC (.inr (by omega))).upd (upd_setCell _ _ _ _) zC (.inr (by omega))),
    hsp, (S3.setCell (by simp) _).setCell (by simp) _⟩
end Go.Proofs.Ytccgbilgfnoheaa
