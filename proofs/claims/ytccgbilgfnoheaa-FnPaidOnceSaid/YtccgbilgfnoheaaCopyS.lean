/-
  Copies of banks: the reference's.
-/
import Derived.Test.YtccgbilgfnoheaaCopyB
namespace Go.Proofs.Ytccgbilgfnoheaa
open Go.RowKit
set_option linter.unusedVariables false

theorem step_allI (w : World) {ops : Array Oper} {o : Oper} {a : Act} {K : Act → World → Prop} {Q : Exit → Act → World → Prop} {E : Prop} (hg : o.guard = none) (s x : Operand)
    (ho : o.op = .call { callee := .builtin .append, args := #[s, x], argTypes := #[27, 27] })
    (base : Nat) (v : Value) (zs : List Int) (hs : a.eval s = v) (hown : OwnI w base v zs) (A : Option Addr) (c : Nat) (ys : List Int) (hx : a.eval x = .slice A ys.length c) (hY : IntsAt w A ys) (hA : A = none → c = 0)
    (hn : zs.length + ys.length ≤ 1000000000) (hbase : base ≤ w.heap.size)
    (h : ∀ v' w', OwnI w' base v' (zs ++ ys) → w.grownBy w' v.ownBlock → From w v v' → K (a.put o.dst v') w') :
    if Region.wanted o (yielded ops a.tmps) = true then Oper.wp Try.prog o a w K Q else E :=
  step_of hg (wp_fineI w s x ho base v zs hs hown A c ys hx hY hA hn hbase h)
/-- append of one integer out of a new block. -/
theorem wp_oneI (w : World) {o : Oper} {a : Act} {K : Act → World → Prop} {Q : Exit → Act → World → Prop} (s x : Operand)
    (ho : o.op = .call { callee := .builtin .append, args := #[s, x], argTypes := #[27, 27] })
    (base : Nat) (v : Value) (zs : List Int) (hs : a.eval s = v) (hown : OwnI w base v zs) (b c : Nat) (y : Int) (hx : a.eval x = .slice (some ⟨b, 0, none⟩) 1 c) (hc : w.cell? ⟨b, 0, none⟩ = some (.int .i64 y))
    (hn : zs.length ≤ 1000000000 - 1) (hb : b < w.heap.size) (hbase : base ≤ w.heap.size)
    (h : ∀ v' w', OwnI w' base v' (zs ++ [y]) → w.grownBy w' v.ownBlock → From w v v' → K (a.put o.dst v') w') : o.wp Try.prog a w K Q := by
  refine wp_fineI w s x ho base v zs hs hown (some ⟨b, 0, none⟩) c [y] hx (.inr ⟨b, 0, rfl, hb, fun k z hk => ?_⟩) (by simp) (by simp; omega) hbase h
  match k, hk with
  | 0, hk => simp at hk; subst hk; simpa using hc
theorem step_oneI (w : World) {ops : Array Oper} {o : Oper} {a : Act} {K : Act → World → Prop} {Q : Exit → Act → World → Prop} {E : Prop} (hg : o.guard = none) (s x : Operand)
    (ho : o.op = .call { callee := .builtin .append, args := #[s, x], argTypes := #[27, 27] })
    (base : Nat) (v : Value) (zs : List Int) (hs : a.eval s = v) (hown : OwnI w base v zs) (b c : Nat) (y : Int) (hx : a.eval x = .slice (some ⟨b, 0, none⟩) 1 c) (hc : w.cell? ⟨b, 0, none⟩ = some (.int .i64 y))
    (hn : zs.length ≤ 1000000000 - 1) (hb : b < w.heap.size) (hbase : base ≤ w.heap.size)
    (h : ∀ v' w', OwnI w' base v' (zs ++ [y]) → w.grownBy w' v.ownBlock → From w v v' → K (a.put o.dst v') w') :
    if Region.wanted o (yielded ops a.tmps) = true then Oper.wp Try.prog o a w K Q else E :=
  step_of hg (wp_oneI w s x ho base v zs hs hown b c y hx hc hn hb hbase h)

theorem own_empty {w : World} {base g : Nat} (h : w.heap[g]? = some (.cells #[] 3 (0, 0))) (hb : base ≤ g) : OwnI w base (.slice (some ⟨g, 0, none⟩) 0 0) [] :=
  ⟨rfl, .inr ⟨g, 0, #[], rfl, hb, h, Nat.le_refl _, Nat.zero_le _, rfl, rfl⟩⟩

set_option maxHeartbeats 4000000 in
theorem l25Copy_any (A : Option Addr) (c : Nat) (K : List Int) (B : Option Addr) (d : Nat) (C : List Int) (w : World) (hz : K.length ≤ 1000000000) (hn : A = none → c = 0) (hA : IntsAt w A K) (hz' : C.length ≤ 1000000000) (hn' : B = none → d = 0) (hB : IntsAt w B C) :
    Calls Try.prog 74 #[.agg #[.slice A K.length c, .slice B C.length d]] w (RetBank w K C) := by
  go_enter Try.func74, Try.ntmps74
  go_wp2
  have h1 : BoxAt ((w.alloc (.cells #[.slice A K.length c, .slice B C.length d] 29)).alloc (.cells #[.slice none 0 0, .slice none 0 0] 29)) (w.heap.size) 29 [.slice A K.length c, .slice B C.length d] := by simpa using (BoxAt.alloc (BoxAt.new w 29 [.slice A K.length c, .slice B C.length d]) (.cells #[.slice none 0 0, .slice none 0 0] 29))
  have h2 : BoxAt ((w.alloc (.cells #[.slice A K.length c, .slice B C.length d] 29)).alloc (.cells #[.slice none 0 0, .slice none 0 0] 29)) (w.heap.size + 1) 29 [.slice none 0 0, .slice none 0 0] := by simpa using (BoxAt.new (w.alloc (.cells #[.slice A K.length c, .slice B C.length d] 29)) 29 [.slice none 0 0, .slice none 0 0])
  have hs0 := (Same.alloc (Same.alloc (Same.refl w) (.cells #[.slice A K.length c, .slice B C.length d] 29)) (.cells #[.slice none 0 0, .slice none 0 0] 29))
  generalize ((w.alloc (.cells #[.slice A K.length c, .slice B C.length d] 29)).alloc (.cells #[.slice none 0 0, .slice none 0 0] 29)) = w0 at *
  have c10 := h1.cell 0 rfl
  have c11 := h1.cell 1 rfl
  have n0 := hs0.size
  have n2 := h2.lt
  have s1 : Same w0 (w0.alloc (.cells #[] 3)).drew := ((Same.refl w0).alloc _).drew
  have s2 : Same w0 ((w0.alloc (.cells #[] 3)).alloc (.cells #[] 3)).drew := (((Same.refl w0).alloc _).alloc _).drew
  have e10 : OwnI (w0.alloc (.cells #[] 3)).drew w0.heap.size (Value.slice (some ⟨w0.heap.size, 0, none⟩) 0 0) [] := (OwnI.empty w0 (Nat.le_refl _)).same (Same.refl _).drew
  have e20 : OwnI ((w0.alloc (.cells #[] 3)).alloc (.cells #[] 3)).drew w0.heap.size (Value.slice (some ⟨w0.heap.size, 0, none⟩) 0 0) [] := ((OwnI.empty w0 (Nat.le_refl _)).alloc (.cells #[] 3)).same (Same.refl _).drew
  have e21 : OwnI ((w0.alloc (.cells #[] 3)).alloc (.cells #[] 3)).drew w0.heap.size (Value.slice (some ⟨(w0.heap.size + 1), 0, none⟩) 0 0) [] := by
    have h := OwnI.empty (w0.alloc (.cells #[] 3)) (base := w0.heap.size) (by simp)
    rw [World.size_alloc] at h
    exact h.same (Same.refl _).drew
  have b1 := h1.alloc (.cells #[] 3)
  have b2 := (h1.alloc (.cells #[] 3)).alloc (.cells #[] 3)
  have b10 := b1.cell 0 rfl
  have b11 := b1.cell 1 rfl
  have b20 := b2.cell 0 rfl
  have b21 := b2.cell 1 rfl
  go_region_held3 (fun w' => w'.cell? ⟨w.heap.size, 0, none⟩ = some (.slice A K.length c) ∧ w'.cell? ⟨w.heap.size, 1, none⟩ = some (.slice B C.length d))
    (first | exact ⟨c10, c11⟩ | exact ⟨b10, b11⟩ | exact ⟨b20, b21⟩ | exact ⟨(h1.same SK).cell 0 rfl, (h1.same SK).cell 1 rfl⟩ | exact ⟨(h1.same (SK.alloc (.cells #[] 3))).cell 0 rfl, (h1.same (SK.alloc (.cells #[] 3))).cell 1 rfl⟩ | exact ⟨(h1.same SC).cell 0 rfl, (h1.same SC).cell 1 rfl⟩ | exact ⟨(((h1.same SC).other (k := w.heap.size + 1) (j := 0) _ (by omega)).other (k := w.heap.size + 1) (j := 1) _ (by omega)).cell 0 rfl, (((h1.same SC).other (k := w.heap.size + 1) (j := 0) _ (by omega)).other (k := w.heap.size + 1) (j := 1) _ (by omega)).cell 1 rfl⟩)
    (first | ((first | (refine step_allI _ (by rfl) (.tmp 3) (.tmp 5) (by rfl) w0.heap.size _ [] (by rfl) e10 A c K (by rfl) ?_ hn ?_ ?_ ?_; exact (hA.same hs0).same s1; (simpa using hz); exact Same.size s1; intro vK wK hoK hupK hfrK; have SK : Same w0 wK := grown_same s1 hupK (fun g hg => (owns_new e10 g hg).1)) | (refine step_allI _ (by rfl) (.tmp 3) (.tmp 5) (by rfl) w0.heap.size _ [] (by rfl) e20 A c K (by rfl) ?_ hn ?_ ?_ ?_; exact (hA.same hs0).same s2; (simpa using hz); exact Same.size s2; intro vK wK hoK hupK hfrK; have SK : Same w0 wK := grown_same s2 hupK (fun g hg => (owns_new e20 g hg).1)) | (refine step_allI _ (by rfl) (.tmp 3) (.tmp 5) (by rfl) w0.heap.size _ [] (by rfl) e21 A c K (by rfl) ?_ hn ?_ ?_ ?_; exact (hA.same hs0).same s2; (simpa using hz); exact Same.size s2; intro vK wK hoK hupK hfrK; have SK : Same w0 wK := grown_same s2 hupK (fun g hg => (owns_new e21 g hg).1))); (rw [List.nil_append] at hoK); (obtain ⟨AK, cK, rfl⟩ := hoK.form); (have kb := h1.same SK); (have kK0 := kb.cell 0 rfl); (have kK1 := kb.cell 1 rfl); (have yKn : OwnI (wK.alloc (.cells #[] 3)) w0.heap.size (Value.slice (some ⟨wK.heap.size, 0, none⟩) 0 0) [] := OwnI.empty wK SK.size); (first | (have yC : OwnI wK w0.heap.size (Value.slice (some ⟨w0.heap.size, 0, none⟩) 0 0) [] := grown_owns hupK e20 (fun g e1 e2 => by simp [Value.ownBlock] at e1 e2; omega); have sx : Sep (Value.slice (some ⟨w0.heap.size, 0, none⟩) 0 0) (.slice AK K.length cK) := fun g e1 e2 => by rcases hfrK g e2 with h | h <;> simp [Value.ownBlock] at e1 h <;> omega) | (have yC : OwnI wK w0.heap.size (Value.slice (some ⟨(w0.heap.size + 1), 0, none⟩) 0 0) [] := grown_owns hupK e21 (fun g e1 e2 => by simp [Value.ownBlock] at e1 e2; omega); have sx : Sep (Value.slice (some ⟨(w0.heap.size + 1), 0, none⟩) 0 0) (.slice AK K.length cK) := fun g e1 e2 => by rcases hfrK g e2 with h | h <;> simp [Value.ownBlock] at e1 h <;> omega) | (have sx : Sep (Value.slice (some ⟨wK.heap.size, 0, none⟩) 0 0) (.slice AK K.length cK) := fun g e1 e2 => by have := (owns_new hoK g e2).2; simp [Value.ownBlock] at e1; omega))) | ((first | (refine step_allI _ (by rfl) (.tmp 7) (.tmp 9) (by rfl) w0.heap.size _ [] (by rfl) yC B d C (by rfl) ?_ hn' ?_ ?_ ?_; exact (hB.same hs0).same SK; (simpa using hz'); exact Same.size SK; intro vC wC hoC hupC hfrC; have SC : Same w0 wC := grown_same SK hupC (fun g hg => (owns_new yC g hg).1)) | (refine step_allI _ (by rfl) (.tmp 7) (.tmp 9) (by rfl) w0.heap.size _ [] (by rfl) yKn B d C (by rfl) ?_ hn' ?_ ?_ ?_; exact (hB.same hs0).same (SK.alloc _); (simpa using hz'); exact Same.size (SK.alloc _); intro vC wC hoC hupC hfrC; have SC : Same w0 wC := grown_same (SK.alloc _) hupC (fun g hg => (owns_new yKn g hg).1))); (rw [List.nil_append] at hoC); (obtain ⟨AC, cC, rfl⟩ := hoC.form); (have rb := h2.same SC); (have r0 := rb.cell 0 rfl); (have r1 := rb.cell 1 rfl); (have r2 := rb.frozen 0); (have r3 := rb.frozen 1); (first | (have hq := grown_owns hupC hoK sx; have sp := Sep.from_ sx hfrC hoK) | (have hq := grown_owns hupC (OwnI.alloc hoK (.cells #[] 3)) sx; have sp := Sep.from_ sx hfrC (OwnI.alloc hoK (.cells #[] 3))))))
  all_goals (have k3 := (rb.set 0 (.slice AK K.length cK)).set 1 (.slice AC C.length cC))
  all_goals (have cf0 := k3.cell 0 rfl)
  all_goals (have cf1 := k3.cell 1 rfl)
  all_goals (have hoK' : OwnI wC w0.heap.size (.slice AK K.length cK) K := hq)
  all_goals (have zK := hoK'.zn)
  all_goals (have zC := hoC.zn)
  all_goals go_wp2
  all_goals exact bodyPost_ret (v := .agg #[.slice AK K.length cK, .slice AC C.length cC]) (by simp [results, Try.results74, go_sem, cf0, cf1]) rfl ⟨_, _, _, _, rfl,
    (((hoK'.base n0).upd (upd_setCell _ _ _ _) zK (.inr (by omega))).upd (upd_setCell _ _ _ _) zK (.inr (by omega))),
    (((hoC.base n0).upd (upd_setCell _ _ _ _) zC (.inr (by omega))).upd (upd_setCell _ _ _ _) zC (.inr (by omega))),
    sp.symm, ((hs0.trans SC).setCell (by simp) _).setCell (by simp) _⟩
end Go.Proofs.Ytccgbilgfnoheaa
