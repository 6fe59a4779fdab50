/-
  Copies of ledgers; Post of the reference.
-/
import Derived.Test.YthelclibokkdnaaCloneP
import Derived.Test.YthelclibokkdnaaFineR
import Derived.Deep.RegionHeld3
import Derived.IntWalk
import Derived.Deep.Cut
import Derived.Deep.CutRange
namespace Go.Proofs.Ythelclibokkdnaa
open Go.RowKit
set_option linter.unusedVariables false

theorem wp_allPosting (w : World) {o : Oper} {a : Act} {K : Act → World → Prop} {Q : Exit → Act → World → Prop} (s x : Operand)
    (ho : o.op = .call { callee := .builtin .append, args := #[s, x], argTypes := #[36, 36] })
    (base : Nat) (v : Value) (L : List TPosting) (hs : a.eval s = v) (hown : OwnPosting w base v L) (A : Option Addr) (c : Nat) (M : List TPosting) (hx : a.eval x = .slice A M.length c) (hM : AtPosting w A M) (hA : A = none → c = 0)
    (hn : L.length + M.length ≤ 1000000000) (hbase : base ≤ w.heap.size)
    (h : ∀ v' w', OwnPosting w' base v' (L ++ M) → w.grownBy w' v.ownBlock → From w v v' → K (a.put o.dst v') w') : o.wp Try.prog a w K Q :=
  wp_fineR w s x 36 ho (.agg #[.int .i64 0, .int .i64 0, .int .i64 0, .int .i64 0]) 32 Try.underlying36 Try.infoPosting rfl (by decide) cPosting_len cPosting_one base v L hs hown A c M hx hM hA hn (by decide) hbase h
theorem step_allPosting (w : World) {ops : Array Oper} {o : Oper} {a : Act} {K : Act → World → Prop} {Q : Exit → Act → World → Prop} {E : Prop} (hg : o.guard = none) (s x : Operand)
    (ho : o.op = .call { callee := .builtin .append, args := #[s, x], argTypes := #[36, 36] })
    (base : Nat) (v : Value) (L : List TPosting) (hs : a.eval s = v) (hown : OwnPosting w base v L) (A : Option Addr) (c : Nat) (M : List TPosting) (hx : a.eval x = .slice A M.length c) (hM : AtPosting w A M) (hA : A = none → c = 0)
    (hn : L.length + M.length ≤ 1000000000) (hbase : base ≤ w.heap.size)
    (h : ∀ v' w', OwnPosting w' base v' (L ++ M) → w.grownBy w' v.ownBlock → From w v v' → K (a.put o.dst v') w') :
    if Region.wanted o (yielded ops a.tmps) = true then Oper.wp Try.prog o a w K Q else E :=
  step_of hg (wp_allPosting w s x ho base v L hs hown A c M hx hM hA hn hbase h)
/-- append of one record out of a new block. -/
theorem wp_onePosting (w : World) {o : Oper} {a : Act} {K : Act → World → Prop} {Q : Exit → Act → World → Prop} (s x : Operand)
    (ho : o.op = .call { callee := .builtin .append, args := #[s, x], argTypes := #[36, 36] })
    (base : Nat) (v : Value) (L : List TPosting) (hs : a.eval s = v) (hown : OwnPosting w base v L) (b c : Nat) (y : TPosting) (hx : a.eval x = .slice (some ⟨b, 0, none⟩) 1 c) (hc : ∀ j u, (cPosting y)[j]? = some u → w.cell? ⟨b, j, none⟩ = some u)
    (hn : L.length ≤ 1000000000 - 1) (hb : b < w.heap.size) (hbase : base ≤ w.heap.size)
    (h : ∀ v' w', OwnPosting w' base v' (L ++ [y]) → w.grownBy w' v.ownBlock → From w v v' → K (a.put o.dst v') w') : o.wp Try.prog a w K Q := by
  refine wp_allPosting w s x ho base v L hs hown (some ⟨b, 0, none⟩) c [y] hx (.inr ⟨b, 0, rfl, hb, fun k z hk j u hu => ?_⟩) (by simp) (by simp; omega) hbase h
  match k, hk with
  | 0, hk => simp at hk; subst hk; simpa using hc j u hu
theorem step_onePosting (w : World) {ops : Array Oper} {o : Oper} {a : Act} {K : Act → World → Prop} {Q : Exit → Act → World → Prop} {E : Prop} (hg : o.guard = none) (s x : Operand)
    (ho : o.op = .call { callee := .builtin .append, args := #[s, x], argTypes := #[36, 36] })
    (base : Nat) (v : Value) (L : List TPosting) (hs : a.eval s = v) (hown : OwnPosting w base v L) (b c : Nat) (y : TPosting) (hx : a.eval x = .slice (some ⟨b, 0, none⟩) 1 c) (hc : ∀ j u, (cPosting y)[j]? = some u → w.cell? ⟨b, j, none⟩ = some u)
    (hn : L.length ≤ 1000000000 - 1) (hb : b < w.heap.size) (hbase : base ≤ w.heap.size)
    (h : ∀ v' w', OwnPosting w' base v' (L ++ [y]) → w.grownBy w' v.ownBlock → From w v v' → K (a.put o.dst v') w') :
    if Region.wanted o (yielded ops a.tmps) = true then Oper.wp Try.prog o a w K Q else E :=
  step_of hg (wp_onePosting w s x ho base v L hs hown b c y hx hc hn hb hbase h)

/-- A ledger and a flag handed back, the ledger's row new. -/
def RetLedgerX (w : World) (L : List TPosting) (x : Value) (e : Ending) (w' : World) : Prop := ∃ A c, e = .returned (.tuple #[.agg #[.slice A L.length c], x]) ∧ OwnPosting w' w.heap.size (.slice A L.length c) L ∧ Same w w'
def postOk (L : List TPosting) (p : TPosting) : Bool := ledgerOk L && ledgerOk (L ++ [p])
def postL (L : List TPosting) (p : TPosting) : List TPosting := if postOk L p then L ++ [p] else L

set_option maxHeartbeats 400000 in
theorem copyLedger_any (A : Option Addr) (c : Nat) (L : List TPosting) (w : World) (hz : L.length ≤ 1000000000) (hA : AtPosting w A L) :
    Calls Try.prog 74 #[.agg #[.slice A L.length c]] w (RetLedger w L) := by
  go_enter Try.func74, Try.ntmps74
  go_wp2_with fail
  have h2 : BoxAt ((w.alloc (.cells #[.slice A L.length c] 38)).alloc (.cells #[.slice none 0 0] 38)) (w.heap.size + 1) 38 [.slice none 0 0] := by simpa using (BoxAt.new (w.alloc (.cells #[.slice A L.length c] 38)) 38 [.slice none 0 0])
  have hs0 := (Same.alloc (Same.alloc (Same.refl w) (.cells #[.slice A L.length c] 38)) (.cells #[.slice none 0 0] 38))
  generalize ((w.alloc (.cells #[.slice A L.length c] 38)).alloc (.cells #[.slice none 0 0] 38)) = w0 at *
  refine (clonePosting_any A c L _ hz (hA.same hs0)).mono ?_
  rintro e w1 ⟨A1, c1, rfl, ho, hs1⟩
  have hlt := h2.lt
  have hlt' := hs1.size
  replace h2 := h2.same hs1
  have c20 := h2.cell 0 rfl
  have f20 := h2.frozen 0
  have k2 := h2.set 0 (.slice A1 L.length c1)
  have cf0 := k2.cell 0 rfl
  have zo := ho.zn
  go_wp2
  exact bodyPost_ret (v := .agg #[.slice A1 L.length c1]) (by simp [results, Try.results74, go_sem, cf0]) rfl ⟨_, _, rfl,
    ((ho.rebase hs0.size).upd (upd_setCell _ _ _ _) zo (.inr (by omega))), (hs0.trans hs1).setCell (by simp) _⟩

set_option maxHeartbeats 1000000 in
theorem l28Copy_any (A : Option Addr) (c : Nat) (L : List TPosting) (w : World) (hz : L.length ≤ 1000000000) (hA : AtPosting w A L) (hn : A = none → c = 0) :
    Calls Try.prog 75 #[.agg #[.slice A L.length c]] w (RetLedger w L) := by
  go_enter Try.func75, Try.ntmps75
  go_upto_region 1 with (fail)
  have h1 : BoxAt ((w.alloc (.cells #[.slice A L.length c] 38)).alloc (.cells #[.slice none 0 0] 38)) (w.heap.size) 38 [.slice A L.length c] := by simpa using (BoxAt.alloc (BoxAt.new w 38 [.slice A L.length c]) (.cells #[.slice none 0 0] 38))
  have h2 : BoxAt ((w.alloc (.cells #[.slice A L.length c] 38)).alloc (.cells #[.slice none 0 0] 38)) (w.heap.size + 1) 38 [.slice none 0 0] := by simpa using (BoxAt.new (w.alloc (.cells #[.slice A L.length c] 38)) 38 [.slice none 0 0])
  have hs0 := (Same.alloc (Same.alloc (Same.refl w) (.cells #[.slice A L.length c] 38)) (.cells #[.slice none 0 0] 38))
  generalize ((w.alloc (.cells #[.slice A L.length c] 38)).alloc (.cells #[.slice none 0 0] 38)) = w0 at *
  have n0 := hs0.size
  have n2 := h2.lt
  have e0 := OwnR.empty 25 4 cPosting w0 (Nat.le_refl _)
  have se := ((Same.refl w0).alloc (.cells #[] 25))
  have b10 := (h1.same se).cell 0 rfl
  go_wp2_with (at_builtin; refine wpList_of rfl fun _ hK => wp_allPosting _ (.tmp 3) (.tmp 5) (by rfl) w0.heap.size _ [] (by rfl) e0 A c L (by rfl) ((hA.same hs0).same se) hn (by simpa using hz) (by simp) (fun v' w3 ho3 hup hfr => ?_); rw [List.nil_append] at ho3; obtain ⟨A1, c1, rfl⟩ := ho3.form; (have k1 := grown_box hup (h1.same se) (Sep.box e0 (by omega))); (have k2 := grown_box hup (h2.same se) (Sep.box e0 (by omega))); (have c20 := k2.cell 0 rfl); (have f20 := k2.frozen 0); refine hK _ _ ?_)
  have k3 := k2.set 0 (.slice A1 L.length c1)
  have cf0 := k3.cell 0 rfl
  have zo := ho3.zn
  have S3 := grown_same (hs0.trans se) hup (fun g hg => by have := (owns_new e0 g hg).1; omega)
  have n3 := hup.size
  go_wp2
  exact bodyPost_ret (v := .agg #[.slice A1 L.length c1]) (by simp [results, Try.results75, go_sem, cf0]) rfl ⟨_, _, rfl,
    ((ho3.rebase n0).upd (upd_setCell _ _ _ _) zo (.inr (by omega))), S3.setCell (by simp) _⟩

set_option maxHeartbeats 2000000 in
theorem sPost_any (A : Option Addr) (c : Nat) (L : List TPosting) (m d k z : Int) (w : World) (hz : L.length ≤ 900000000) (hA : AtPosting w A L) (hn : A = none → c = 0) :
    Calls Try.prog 42 #[.agg #[.slice A L.length c], .agg #[.int .i64 m, .int .i64 d, .int .i64 k, .int .i64 z]] w (RetLedgerX w (postL L (m, d, k, z)) (.bool (postOk L (m, d, k, z)))) := by
  obtain ⟨M, hM⟩ : ∃ M, M = L ++ [(m, d, k, z)] := ⟨_, rfl⟩
  have hlM : M.length ≤ 900000001 := by rw [hM]; simp; omega
  have HM := Lib.hid hM
  clear hM
  go_enter Try.func42, Try.ntmps42
  go_upto_region 1 with (fail)
  have h1 : BoxAt (((w.alloc (.cells #[.slice A L.length c] 38)).alloc (.cells #[.int .i64 m, .int .i64 d, .int .i64 k, .int .i64 z] 25)).alloc (.cells #[.slice none 0 0] 38)) (w.heap.size) 38 [.slice A L.length c] := by simpa using (BoxAt.alloc (BoxAt.alloc (BoxAt.new w 38 [.slice A L.length c]) (.cells #[.int .i64 m, .int .i64 d, .int .i64 k, .int .i64 z] 25)) (.cells #[.slice none 0 0] 38))
  have h3 : BoxAt (((w.alloc (.cells #[.slice A L.length c] 38)).alloc (.cells #[.int .i64 m, .int .i64 d, .int .i64 k, .int .i64 z] 25)).alloc (.cells #[.slice none 0 0] 38)) (w.heap.size + 1) 25 [.int .i64 m, .int .i64 d, .int .i64 k, .int .i64 z] := by simpa using (BoxAt.alloc (BoxAt.new (w.alloc (.cells #[.slice A L.length c] 38)) 25 [.int .i64 m, .int .i64 d, .int .i64 k, .int .i64 z]) (.cells #[.slice none 0 0] 38))
  have h2 : BoxAt (((w.alloc (.cells #[.slice A L.length c] 38)).alloc (.cells #[.int .i64 m, .int .i64 d, .int .i64 k, .int .i64 z] 25)).alloc (.cells #[.slice none 0 0] 38)) (w.heap.size + 1 + 1) 38 [.slice none 0 0] := by simpa using (BoxAt.new ((w.alloc (.cells #[.slice A L.length c] 38)).alloc (.cells #[.int .i64 m, .int .i64 d, .int .i64 k, .int .i64 z] 25)) 38 [.slice none 0 0])
  have hs0 := (Same.alloc (Same.alloc (Same.alloc (Same.refl w) (.cells #[.slice A L.length c] 38)) (.cells #[.int .i64 m, .int .i64 d, .int .i64 k, .int .i64 z] 25)) (.cells #[.slice none 0 0] 38))
  generalize (((w.alloc (.cells #[.slice A L.length c] 38)).alloc (.cells #[.int .i64 m, .int .i64 d, .int .i64 k, .int .i64 z] 25)).alloc (.cells #[.slice none 0 0] 38)) = w0 at *
  have n0 := hs0.size
  have n2 := h2.lt
  have b10 := h1.cell 0 rfl
  go_wp2_with fail
  refine (l28Copy_any A c L _ (by omega) (hA.same hs0) hn).mono ?_
  rintro e w1 ⟨A1, c1, rfl, ho1, hs1⟩
  go_upto_region 2 with (fail)
  have h4 := BoxAt.new w1 38 [.slice A1 L.length c1]
  have hs2 := (Same.refl w1).alloc (.cells #[.slice A1 L.length c1] 38)
  generalize w1.alloc (.cells #[.slice A1 L.length c1] 38) = w2 at *
  have n1 := hs1.size
  have n3 := hs2.size
  have n4 := h4.lt
  have ho2 := ho1.same hs2
  have l1 := owns_new ho1
  have b40 := h4.cell 0 rfl
  have H3 := h3.same (hs1.trans hs2)
  have b30 := H3.cell 0 rfl
  have b31 := H3.cell 1 rfl
  have b32 := H3.cell 2 rfl
  have b33 := H3.cell 3 rfl
  have sp := (Same.refl w2).alloc (.cells #[.int .i64 m, .int .i64 d, .int .i64 k, .int .i64 z] 25)
  have o3 : OwnPosting (w2.alloc (.cells #[.int .i64 m, .int .i64 d, .int .i64 k, .int .i64 z] 25)) w0.heap.size (.slice A1 L.length c1) L := ho2.same sp
  have g4 := h4.same sp
  have b41 := g4.cell 0 rfl
  have hne : (Value.slice A1 L.length c1).ownBlock ≠ some w1.heap.size := fun e => by have := (l1 _ e).2; omega
  go_upto_region 3 with (at_builtin; refine wpList_of rfl fun _ hK => wp_onePosting _ (.tmp 10) (.tmp 12) (by rfl) w0.heap.size _ L (by rfl) o3 w2.heap.size 1 (m, d, k, z) (by rfl) (cells_new rfl) (by omega) (by simp) (by have := sp.size; omega) (fun v' w4 ho4 hup hfr => ?_); rw [← HM.out] at ho4; obtain ⟨A4, c4, rfl⟩ := ho4.form; (have k4 := grown_box hup g4 hne); (have c40 := k4.cell 0 rfl); (have f40 := k4.frozen 0); refine hK _ _ ?_)
  clear hK
  have A4ne : (Value.slice A4 M.length c4).ownBlock ≠ some w1.heap.size := fun e => by
    rcases hfr _ e with h | h
    · exact hne h
    · have := sp.size; omega
  have S4 := grown_same ((hs1.trans hs2).trans sp) hup (fun g hg => (l1 g hg).1)
  have S5 : Same w0 (w4.setCell ⟨w1.heap.size, 0, none⟩ (.slice A4 M.length c4)) := S4.setCell (by simp; omega) _
  have k5 : BoxAt (w4.setCell ⟨w1.heap.size, 0, none⟩ (.slice A4 M.length c4)) w1.heap.size 38 [.slice A4 M.length c4] := k4.set 0 _
  have hgb : w4.grownBy (w4.setCell ⟨w1.heap.size, 0, none⟩ (.slice A4 M.length c4)) (Value.slice (some ⟨w1.heap.size, 0, none⟩) 0 0).ownBlock := ⟨rfl, rfl, rfl, by simp, fun k _ hne => heap_setCell_other _ _ _ _ (fun e => hne (by rw [e]; rfl))⟩
  have o5 : OwnPosting (w4.setCell ⟨w1.heap.size, 0, none⟩ (.slice A4 M.length c4)) w0.heap.size (.slice A4 M.length c4) M :=
    grown_owns hgb ho4 (fun g h1 h2 => A4ne (by rw [h2, ← h1]; rfl))
  clear hgb
  generalize w4.setCell ⟨w1.heap.size, 0, none⟩ (.slice A4 M.length c4) = w5 at *
  clear hup hfr A4ne S4 k4 c40 f40 ho4 sp o3 g4 b41 hne b30 b31 b32 b33 H3 b40 h4 ho2 hs2
  have b10 := (h1.same S5).cell 0 rfl
  cases m1 : ledgerOk L
  · go_wp2_with fail
    refine (sLedgerOk_any A c L _ (by omega) (hA.same (hs0.trans S5))).mono ?_
    rintro e w6 ⟨rfl, hs6⟩
    rw [m1]
    have S6 := S5.trans hs6
    have HO := Lib.hid (show postOk L (m, d, k, z) = false by rw [postOk, m1]; rfl)
    have HN := Lib.hid (show postL L (m, d, k, z) = L by rw [postL, HO.out]; rfl)
    have e10 := (h1.same S6).cell 0 rfl
    go_wp2_with fail
    refine (l28Copy_any A c L _ (by omega) (hA.same (hs0.trans S6)) hn).mono ?_
    rintro e wz ⟨Az, cz, rfl, hoz, hsz⟩
    have hlz := (h2.same S6).lt
    have kz := (h2.same S6).same hsz
    have cz0 := kz.cell 0 rfl
    have fz0 := kz.frozen 0
    have xz := (kz.set 0 (.slice Az L.length cz)).cell 0 rfl
    have zo := hoz.zn
    have nz := S6.size
    go_wp2
    refine bodyPost_ret (v := .tuple #[.agg #[.slice Az L.length cz], .bool false]) (by simp [results, Try.results42, go_sem, xz]) rfl ?_
    show RetLedgerX w (postL L (m, d, k, z)) (.bool (postOk L (m, d, k, z))) _ _
    rw [HN.out, HO.out]
    exact ⟨Az, cz, rfl, ((hoz.rebase (by omega)).upd (upd_setCell _ _ _ _) zo (.inr (by omega))), ((hs0.trans S6).trans hsz).setCell (by simp; omega) _⟩
  · go_wp2_with fail
    refine (sLedgerOk_any A c L _ (by omega) (hA.same (hs0.trans S5))).mono ?_
    rintro e w6 ⟨rfl, hs6⟩
    rw [m1]
    have S6 := S5.trans hs6
    have k6 := k5.same hs6
    have c60 := k6.cell 0 rfl
    have o6 := o5.same hs6
    go_wp2_with fail
    refine (sLedgerOk_any A4 c4 M _ (by omega) (OwnR.recs cPosting_len o6)).mono ?_
    rintro e w7 ⟨rfl, hs7⟩
    have S7 := S6.trans hs7
    have o7 := o6.same hs7
    have k7 := k6.same hs7
    cases m2 : ledgerOk M
    · skip
      have HO := Lib.hid (show postOk L (m, d, k, z) = false by rw [postOk, m1, ← HM.out, m2]; rfl)
      have HN := Lib.hid (show postL L (m, d, k, z) = L by rw [postL, HO.out]; rfl)
      have e10 := (h1.same S7).cell 0 rfl
      go_wp2_with fail
      refine (l28Copy_any A c L _ (by omega) (hA.same (hs0.trans S7)) hn).mono ?_
      rintro e wz ⟨Az, cz, rfl, hoz, hsz⟩
      have hlz := (h2.same S7).lt
      have kz := (h2.same S7).same hsz
      have cz0 := kz.cell 0 rfl
      have fz0 := kz.frozen 0
      have xz := (kz.set 0 (.slice Az L.length cz)).cell 0 rfl
      have zo := hoz.zn
      have nz := S7.size
      go_wp2
      refine bodyPost_ret (v := .tuple #[.agg #[.slice Az L.length cz], .bool false]) (by simp [results, Try.results42, go_sem, xz]) rfl ?_
      show RetLedgerX w (postL L (m, d, k, z)) (.bool (postOk L (m, d, k, z))) _ _
      rw [HN.out, HO.out]
      exact ⟨Az, cz, rfl, ((hoz.rebase (by omega)).upd (upd_setCell _ _ _ _) zo (.inr (by omega))), ((hs0.trans S7).trans hsz).setCell (by simp; omega) _⟩
    · have HO := Lib.hid (show postOk L (m, d, k, z) = true by rw [postOk, m1, ← HM.out, m2]; rfl)
      have HN := Lib.hid (show postL L (m, d, k, z) = M by rw [postL, HO.out, HM.out]; rfl)
      have c70 := k7.cell 0 rfl
      have hlz := (h2.same S7).lt
      have kz := (h2.same S7)
      have cz0 := kz.cell 0 rfl
      have fz0 := kz.frozen 0
      have xz := (kz.set 0 (.slice A4 M.length c4)).cell 0 rfl
      have zo := o7.zn
      have nz := S7.size
      go_wp2
      refine bodyPost_ret (v := .tuple #[.agg #[.slice A4 M.length c4], .bool true]) (by simp [results, Try.results42, go_sem, xz]) rfl ?_
      show RetLedgerX w (postL L (m, d, k, z)) (.bool (postOk L (m, d, k, z))) _ _
      rw [HN.out, HO.out]
      exact ⟨A4, c4, rfl, ((o7.rebase (by omega)).upd (upd_setCell _ _ _ _) zo (.inr (by omega))), (hs0.trans S7).setCell (by simp; omega) _⟩
end Go.Proofs.Ythelclibokkdnaa
