/-
  Copies of runs and banks; keys looked for.
-/
import Derived.Test.YtccgbilgfnoheaaFine
import Derived.Test.YtccgbilgfnoheaaBank2
import Derived.Test.YtccgbilgfnoheaaRun2
import Derived.Test.YtccgbilgfnoheaaCut
import Derived.Deep.RegionHeld3
import Derived.IntWalk
namespace Go.Proofs.Ytccgbilgfnoheaa
open Go.RowKit

theorem flat_setc {T : Type} {s : Nat} {cells : T → List Value} (hl : ∀ x, (cells x).length = s) : ∀ {L : List T} {k j : Nat} {x y : T} {u : Value}, L[k]? = some x → j < s → cells y = (cells x).set j u → (L.flatMap cells).set (k * s + j) u = (L.set k y).flatMap cells
  | [], k, j, x, y, u, h, _, _ => by simp at h
  | z :: L, 0, j, x, y, u, h, hj, hy => by
    simp at h; subst h
    rw [List.flatMap_cons, Nat.zero_mul, Nat.zero_add, List.set_append_left _ _ (by rw [hl]; exact hj), List.set_cons_zero, List.flatMap_cons, hy]
  | z :: L, k + 1, j, x, y, u, h, hj, hy => by
    have ih := flat_setc hl (L := L) (k := k) (j := j) (x := x) (y := y) (u := u) (by simpa using h) hj hy
    have e : (k + 1) * s + j = s + (k * s + j) := by rw [Nat.succ_mul]; omega
    rw [List.flatMap_cons, List.set_cons_succ, List.flatMap_cons, e, List.set_append_right _ _ (by rw [hl]; omega), hl, show s + (k * s + j) - s = k * s + j by omega, ih]
/-- One cell of element k is written. -/
theorem OwnR.setc {T : Type} {e : TypeId} {s : Nat} {cells : T → List Value} {a : World} {base g n c : Nat} {L : List T} (hl : ∀ x, (cells x).length = s) (h : OwnR e s cells a base (.slice (some ⟨g, 0, none⟩) n c) L) {k j : Nat} {x y : T} {u : Value} (hx : L[k]? = some x) (hj : j < s) (hy : cells y = (cells x).set j u) :
    OwnR e s cells (a.setCell ⟨g, k * s + j, none⟩ u) base (.slice (some ⟨g, 0, none⟩) n c) (L.set k y) ∧ a.grownBy (a.setCell ⟨g, k * s + j, none⟩ u) (some g) := by
  have hn : n = L.length := by
    rcases h.2 with ⟨hv, _⟩ | ⟨g', cap, cur, hv, _⟩
    · simp at hv
    · injection hv
  subst hn
  have h1 := World.ownsRow.stored h (k * s + j) u
  rw [flat_setc hl hx hj hy] at h1
  refine ⟨?_, h1.2⟩
  show World.ownsRow _ _ _ _ _ _ _
  rw [List.length_set]
  exact h1.1

/-- append of a list of integers, nil or not. -/
theorem wp_fineI (w : World) {o : Oper} {a : Act} {K : Act → World → Prop} {Q : Exit → Act → World → Prop} (s x : Operand)
    (ho : o.op = .call { callee := .builtin .append, args := #[s, x], argTypes := #[27, 27] })
    (base : Nat) (v : Value) (zs : List Int) (hs : a.eval s = v) (hown : OwnI w base v zs) (A : Option Addr) (c : Nat) (ys : List Int) (hx : a.eval x = .slice A ys.length c) (hY : IntsAt w A ys) (hA : A = none → c = 0)
    (hn : zs.length + ys.length ≤ 1000000000) (hbase : base ≤ w.heap.size)
    (h : ∀ v' w', OwnI w' base v' (zs ++ ys) → w.grownBy w' v.ownBlock → From w v v' → K (a.put o.dst v') w') : o.wp Try.prog a w K Q := by
  refine wp_fine w s x 27 ho 3 (.int .i64 0) 1 8 Try.underlying27 Try.infoInt rfl (by decide) base v zs.length _ hs hown A ys.length c (ys.map (Value.int .i64)) hx (by simp) ?_ ?_ hn (by decide) hbase ?_
  · rcases A with _ | ad
    · refine .inl ⟨rfl, ?_, hA rfl⟩
      rcases hY with hY | ⟨b, off, hA', _⟩
      · simp [hY]
      · cases hA'
    · refine .inr ⟨ad, rfl, fun j u hu => ?_⟩
      rw [List.getElem?_map] at hu
      obtain ⟨y, hy, rfl⟩ := Option.map_eq_some_iff.1 hu
      rcases hY with hY | ⟨b, off, hA', hb, hc⟩
      · subst hY; simp at hy
      · injection hA' with hA'
        subst hA'
        rw [Addr.add_lit]
        exact hc j y hy
  · intro u hu
    obtain ⟨y, _, rfl⟩ := List.mem_map.1 hu
    rfl
  · intro v' w' h2 h3 h4
    refine h v' w' ?_ h3 h4
    show World.ownsRow _ _ _ _ _ _ _
    rw [List.length_append, List.map_append]
    exact h2

theorem wp_fineR {T : Type} {e : TypeId} {s : Nat} {cells : T → List Value} {P : Program} (w : World) {o : Oper} {a : Act} {K : Act → World → Prop} {Q : Exit → Act → World → Prop} (sx x : Operand) (t : TypeId)
    (ho : o.op = .call { callee := .builtin .append, args := #[sx, x], argTypes := #[t, t] }) (z : Value) (bytes : Nat) (ht : P.underlying t = some (.slice e))
    (hinfo : (P.info? e).map (fun i => (i.zero, i.size, i.bytes)) = some (some z, s, bytes)) (hzs : z.cells.size = s) (hs0 : 0 < s) (hl : ∀ x, (cells x).length = s) (h1 : ∀ x, ∀ u ∈ cells x, u.oneCell' = true)
    (base : Nat) (v : Value) (L : List T) (hs : a.eval sx = v) (hown : OwnR e s cells w base v L) (A : Option Addr) (c : Nat) (M : List T) (hx : a.eval x = .slice A M.length c)
    (hM : RecAt s cells w A M) (hA : A = none → c = 0) (hn : L.length + M.length ≤ 1000000000) (hby : bytes ≤ 1000) (hbase : base ≤ w.heap.size)
    (h : ∀ v' w', OwnR e s cells w' base v' (L ++ M) → w.grownBy w' v.ownBlock → From w v v' → K (a.put o.dst v') w') :
    o.wp P a w K Q := by
  refine wp_fine w sx x t ho e z s bytes ht hinfo hzs hs0 base v L.length _ hs hown A M.length c (M.flatMap cells) hx (flat_length hl M) ?_ ?_ hn hby hbase ?_
  · rcases A with _ | ad
    · refine .inl ⟨rfl, ?_, hA rfl⟩
      rcases hM with hM | ⟨b, off, hA', _⟩
      · simp [hM]
      · cases hA'
    · refine .inr ⟨ad, rfl, fun j u hu => ?_⟩
      obtain ⟨k, i, y, hk, hi', rfl⟩ := flat_inv hl hu
      rcases hM with hM | ⟨b, off, hA, hb, hc⟩
      · subst hM; simp at hk
      · injection hA with hA
        subst hA
        rw [Addr.add_lit, ← Nat.add_assoc]
        exact hc k y hk i u hi'
  · intro u hu
    obtain ⟨y, _, hy⟩ := List.mem_flatMap.1 hu
    exact h1 y u hy
  · intro v' w' h2 h3 h4
    refine h v' w' ?_ h3 h4
    show World.ownsRow _ _ _ _ _ _ _
    rw [List.length_append, List.flatMap_append]
    exact h2

theorem wp_allItem (w : World) {o : Oper} {a : Act} {K : Act → World → Prop} {Q : Exit → Act → World → Prop} (s x : Operand)
    (ho : o.op = .call { callee := .builtin .append, args := #[s, x], argTypes := #[24, 24] })
    (base : Nat) (v : Value) (L : List TItem) (hs : a.eval s = v) (hown : OwnItem w base v L) (A : Option Addr) (c : Nat) (M : List TItem) (hx : a.eval x = .slice A M.length c) (hM : AtItem w A M) (hA : A = none → c = 0)
    (hn : L.length + M.length ≤ 1000000000) (hbase : base ≤ w.heap.size)
    (h : ∀ v' w', OwnItem w' base v' (L ++ M) → w.grownBy w' v.ownBlock → From w v v' → K (a.put o.dst v') w') : o.wp Try.prog a w K Q :=
  wp_fineR w s x 24 ho (.agg #[.int .i64 0, .int .i64 0, .int .i64 0]) 24 Try.underlying24 Try.infoItem rfl (by decide) cItem_len cItem_one base v L hs hown A c M hx hM hA hn (by decide) hbase h
theorem step_allItem (w : World) {ops : Array Oper} {o : Oper} {a : Act} {K : Act → World → Prop} {Q : Exit → Act → World → Prop} {E : Prop} (hg : o.guard = none) (s x : Operand)
    (ho : o.op = .call { callee := .builtin .append, args := #[s, x], argTypes := #[24, 24] })
    (base : Nat) (v : Value) (L : List TItem) (hs : a.eval s = v) (hown : OwnItem w base v L) (A : Option Addr) (c : Nat) (M : List TItem) (hx : a.eval x = .slice A M.length c) (hM : AtItem w A M) (hA : A = none → c = 0)
    (hn : L.length + M.length ≤ 1000000000) (hbase : base ≤ w.heap.size)
    (h : ∀ v' w', OwnItem w' base v' (L ++ M) → w.grownBy w' v.ownBlock → From w v v' → K (a.put o.dst v') w') :
    if Region.wanted o (yielded ops a.tmps) = true then Oper.wp Try.prog o a w K Q else E :=
  step_of hg (wp_allItem w s x ho base v L hs hown A c M hx hM hA hn hbase h)
/-- append of one record out of a new block. -/
theorem wp_oneItem (w : World) {o : Oper} {a : Act} {K : Act → World → Prop} {Q : Exit → Act → World → Prop} (s x : Operand)
    (ho : o.op = .call { callee := .builtin .append, args := #[s, x], argTypes := #[24, 24] })
    (base : Nat) (v : Value) (L : List TItem) (hs : a.eval s = v) (hown : OwnItem w base v L) (b c : Nat) (y : TItem) (hx : a.eval x = .slice (some ⟨b, 0, none⟩) 1 c) (hc : ∀ j u, (cItem y)[j]? = some u → w.cell? ⟨b, j, none⟩ = some u)
    (hn : L.length ≤ 1000000000 - 1) (hb : b < w.heap.size) (hbase : base ≤ w.heap.size)
    (h : ∀ v' w', OwnItem w' base v' (L ++ [y]) → w.grownBy w' v.ownBlock → From w v v' → K (a.put o.dst v') w') : o.wp Try.prog a w K Q := by
  refine wp_allItem w s x ho base v L hs hown (some ⟨b, 0, none⟩) c [y] hx (.inr ⟨b, 0, rfl, hb, fun k z hk j u hu => ?_⟩) (by simp) (by simp; omega) hbase h
  match k, hk with
  | 0, hk => simp at hk; subst hk; simpa using hc j u hu
theorem step_oneItem (w : World) {ops : Array Oper} {o : Oper} {a : Act} {K : Act → World → Prop} {Q : Exit → Act → World → Prop} {E : Prop} (hg : o.guard = none) (s x : Operand)
    (ho : o.op = .call { callee := .builtin .append, args := #[s, x], argTypes := #[24, 24] })
    (base : Nat) (v : Value) (L : List TItem) (hs : a.eval s = v) (hown : OwnItem w base v L) (b c : Nat) (y : TItem) (hx : a.eval x = .slice (some ⟨b, 0, none⟩) 1 c) (hc : ∀ j u, (cItem y)[j]? = some u → w.cell? ⟨b, j, none⟩ = some u)
    (hn : L.length ≤ 1000000000 - 1) (hb : b < w.heap.size) (hbase : base ≤ w.heap.size)
    (h : ∀ v' w', OwnItem w' base v' (L ++ [y]) → w.grownBy w' v.ownBlock → From w v v' → K (a.put o.dst v') w') :
    if Region.wanted o (yielded ops a.tmps) = true then Oper.wp Try.prog o a w K Q else E :=
  step_of hg (wp_oneItem w s x ho base v L hs hown b c y hx hc hn hb hbase h)

set_option maxHeartbeats 400000 in
theorem cloneI_any (A : Option Addr) (c : Nat) (zs : List Int) (w : World) (hz : zs.length ≤ 1000000000) (hA : IntsAt w A zs) :
    Calls Try.prog 73 #[.slice A zs.length c] w (RetI w zs) := by
  have qT : ∀ (w : World) (a : Option Addr) (n c n' c' : Nat), (binOp .eql 27 (.slice a n c) (.slice none n' c')).run Try.prog w = .ok (.bool a.isNone) w := fun w a n c n' c' => Lib.run_eql_slice_nil w 27 3 a n c n' c' Try.underlying27
  rcases A with _ | ad
  · have hL : zs = [] := by
      rcases hA with h | ⟨b, off, h, _⟩
      · exact h
      · simp at h
    subst hL
    go_enter Try.func73, Try.ntmps73
    go_wp2
    go_ret
    exact RetI.of (OwnI.nil _ _) (Same.refl w)
  · go_enter Try.func73, Try.ntmps73
    go_wp2_with (at_builtin; refine wpList_of rfl fun _ hK => wp_fineI _ (.tmp 5) (.tmp 6) rfl w.heap.size _ [] rfl (OwnI.empty _ (Nat.le_refl _)) (some ad) c zs rfl (hA.same ((Same.refl w).alloc _)) (by simp) (by simpa using hz) (by simp) (fun v' w1 ho1 hup _ => hK _ _ ?_))
    rw [List.nil_append] at ho1
    have hs1 := grown_same ((Same.refl w).alloc (.cells #[] 3)) hup (fun g hg => (owns_new (OwnI.empty w (Nat.le_refl _)) g hg).1)
    clear hup
    go_wp2
    go_ret
    exact RetI.of ho1 hs1

set_option maxHeartbeats 400000 in
theorem cloneItem_any (A : Option Addr) (c : Nat) (L : List TItem) (w : World) (hz : L.length ≤ 1000000000) (hA : AtItem w A L) :
    Calls Try.prog 81 #[.slice A L.length c] w (RetR 41 3 cItem w L) := by
  have qT : ∀ (w : World) (a : Option Addr) (n c n' c' : Nat), (binOp .eql 24 (.slice a n c) (.slice none n' c')).run Try.prog w = .ok (.bool a.isNone) w := fun w a n c n' c' => Lib.run_eql_slice_nil w 24 41 a n c n' c' Try.underlying24
  rcases A with _ | ad
  · have hL : L = [] := by
      rcases hA with h | ⟨b, off, h, _⟩
      · exact h
      · simp at h
    subst hL
    go_enter Try.func81, Try.ntmps81
    go_wp2
    go_ret
    exact RetR.of (OwnR.nil _ _ _ _ _) (Same.refl w)
  · go_enter Try.func81, Try.ntmps81
    go_wp2_with (at_builtin; refine wpList_of rfl fun _ hK => wp_appAll _ (.tmp 5) (.tmp 6) 24 rfl (.agg #[.int .i64 0, .int .i64 0, .int .i64 0]) 24 Try.underlying24 Try.infoItem rfl (by decide) cItem_len cItem_one w.heap.size _ [] rfl (OwnR.empty _ _ _ _ (Nat.le_refl _)) ad c L rfl (hA.same ((Same.refl w).alloc _)) (by simpa using hz) (by decide) (by simp) (fun v' w1 ho1 hup => hK _ _ ?_))
    rw [List.nil_append] at ho1
    have hs1 := ((Same.refl w).alloc _).upds hup (Nat.le_refl _)
    clear hup
    go_wp2
    go_ret
    exact RetR.of ho1 hs1

set_option maxHeartbeats 400000 in
theorem index_any (A : Option Addr) (c : Nat) (K : List Int) (key : Int) (w : World) (hz : K.length ≤ 9223372036854775807) (hA : IntsAt w A K) :
    Calls Try.prog 82 #[.slice A K.length c, .int .i64 key] w fun e w' => ∃ r : Int, e = .returned (.int .i64 r) ∧ Found (fun x => x == key) K r ∧ Same w w' := by
  go_enter Try.func82, Try.ntmps82
  go_wp2
  go_loopw [8] (fun i wr => ∃ k : Nat, k ≤ K.length ∧ i = .int .i64 k ∧ Hid ((K.take k).all (fun x => !(x == key)) = true) ∧ Same w wr) (fun i _ => K.length - (intOf i).toNat)
  case atStart => exact ⟨0, Nat.zero_le _, rfl, by simp [Hid], Same.refl _⟩
  case round =>
    obtain ⟨k, hk, rfl, hall, hs⟩ := hrel
    by_cases hlt : k < K.length
    · obtain ⟨b, off, x, rfl, hc, HX, _⟩ := (hA.same hs).at_ hlt
      clear hA
      by_cases hp : x = key
      · have HP := Lib.hid (show Found (fun x => x == key) K k from .inr ⟨k, _, rfl, HX.out, by simp [hp], hall.out⟩)
        have q1 : (key == x) = true := by simp [hp]
        clear hp
        go_wp2
        go_ret
        exact ⟨_, rfl, HP.out, hs⟩
      · have HP := Lib.hid (all_take_succ hall.out HX.out (show (!(x == key)) = true by simp [hp]))
        have q1 : (key == x) = false := by simp; exact fun e => hp e.symm
        clear hp
        go_wp2
        go_roundw
        case rel => exact ⟨k + 1, hlt, by go_num, HP, hs⟩
        case measure => simp [intOf]; omega
    · have hl := hall.out
      rw [show k = K.length by omega, List.take_length] at hl
      have HP := Lib.hid hl
      clear hl hall
      go_wp2
      go_ret
      exact ⟨_, rfl, .inl ⟨rfl, HP.out⟩, hs⟩
theorem contains_any (A : Option Addr) (c : Nat) (K : List Int) (key : Int) (w : World) (hz : K.length ≤ 9223372036854775807) (hA : IntsAt w A K) :
    Calls Try.prog 55 #[.slice A K.length c, .int .i64 key] w fun e w' => e = .returned (.bool (hasK K key)) ∧ Same w w' := by
  go_enter Try.func55, Try.ntmps55
  go_wp2_with fail
  refine (index_any A c K key _ hz hA).mono ?_
  rintro e w1 ⟨r, rfl, hf, hs1⟩
  have HF := Lib.hid (show decide (0 ≤ r) = hasK K key from hf.any)
  clear hf
  go_wp2
  all_goals go_ret
  all_goals exact ⟨ret_bool (by first | exact HF.out | (rw [← HF.out]; simp; omega)), hs1⟩

set_option maxHeartbeats 400000 in
theorem keyOf_any (m : Int) (A : Option Addr) (c : Nat) (L : List TItem) (k : Nat) (x : TItem) (w : World) (_hz : L.length ≤ 9223372036854775807) (hA : AtItem w A L) (hx : L[k]? = some x) (hm : 0 ≤ m ∧ m ≤ 3599) (hf : 1 ≤ x.1 ∧ x.1 ≤ 999) :
    Calls Try.prog 56 #[.agg #[.int .i64 m, .slice A L.length c], .int .i64 k] w fun e w' => e = .returned (.int .i64 (m * 1000 + x.1)) ∧ Same w w' := by
  have hlt := (List.getElem?_eq_some_iff.1 hx).1
  obtain ⟨b, off, y, rfl, hc, HX, hbl⟩ := hA.at_ hlt
  obtain rfl := Option.some.inj (hx.symm.trans HX.out)
  obtain ⟨f0, f1, f2⟩ := x
  dsimp only at hf ⊢
  have q0 : (0 : Int) ≤ (k : Int) := by omega
  have q1 : (k : Int) < (L.length : Int) := by omega
  have k1 : IntKind.i64.wrap (m * 1000) = m * 1000 := IntWalk.i64_in _ (by omega)
  have k2 : IntKind.i64.wrap (m * 1000 + f0) = m * 1000 + f0 := IntWalk.i64_in _ (by omega)
  have e0 := hc 0 _ rfl
  simp only [Nat.add_zero] at e0
  have e0' := ((Same.refl w).alloc (.cells #[.int .i64 m, .slice (some ⟨b, off, none⟩) L.length c] 26)).cell (p := ⟨b, off + k * 3, none⟩) hbl
  rw [e0] at e0'
  clear hc hA hx HX
  go_enter Try.func56, Try.ntmps56
  go_wp2
  have hb := BoxAt.new w 26 [.int .i64 m, .slice (some ⟨b, off, none⟩) L.length c]
  have hs0 := (Same.refl w).alloc (.cells #[.int .i64 m, .slice (some ⟨b, off, none⟩) L.length c] 26)
  generalize w.alloc (.cells #[.int .i64 m, .slice (some ⟨b, off, none⟩) L.length c] 26) = w0 at *
  have b0 := hb.cell 0 rfl
  have b1 := hb.cell 1 rfl
  go_quiet (fail)
  go_wp2
  go_ret
  exact ⟨rfl, hs0.drewN _⟩

set_option maxHeartbeats 400000 in
theorem l25Key_any (m : Int) (A : Option Addr) (c : Nat) (L : List TItem) (k : Nat) (x : TItem) (w : World) (_hz : L.length ≤ 9223372036854775807) (hA : AtItem w A L) (hx : L[k]? = some x) (hm : 0 ≤ m ∧ m ≤ 3599) (hf : 1 ≤ x.1 ∧ x.1 ≤ 999) :
    Calls Try.prog 77 #[.agg #[.int .i64 m, .slice A L.length c], .int .i64 k] w fun e w' => e = .returned (.int .i64 (m * 1000 + x.1)) ∧ Same w w' := by
  have hlt := (List.getElem?_eq_some_iff.1 hx).1
  obtain ⟨b, off, y, rfl, hc, HX, hbl⟩ := hA.at_ hlt
  obtain rfl := Option.some.inj (hx.symm.trans HX.out)
  obtain ⟨f0, f1, f2⟩ := x
  dsimp only at hf ⊢
  have q0 : (0 : Int) ≤ (k : Int) := by omega
  have q1 : (k : Int) < (L.length : Int) := by omega
  have k1 : IntKind.i64.wrap (m * 1000) = m * 1000 := IntWalk.i64_in _ (by omega)
  have k2 : IntKind.i64.wrap (m * 1000 + f0) = m * 1000 + f0 := IntWalk.i64_in _ (by omega)
  have e0 := hc 0 _ rfl
  simp only [Nat.add_zero] at e0
  have e0' := ((Same.refl w).alloc (.cells #[.int .i64 m, .slice (some ⟨b, off, none⟩) L.length c] 26)).cell (p := ⟨b, off + k * 3, none⟩) hbl
  rw [e0] at e0'
  clear hc hA hx HX
  go_enter Try.func77, Try.ntmps77
  go_wp2
  have hb := BoxAt.new w 26 [.int .i64 m, .slice (some ⟨b, off, none⟩) L.length c]
  have hs0 := (Same.refl w).alloc (.cells #[.int .i64 m, .slice (some ⟨b, off, none⟩) L.length c] 26)
  generalize w.alloc (.cells #[.int .i64 m, .slice (some ⟨b, off, none⟩) L.length c] 26) = w0 at *
  have b0 := hb.cell 0 rfl
  have b1 := hb.cell 1 rfl
  go_quiet (fail)
  go_wp2
  go_ret
  exact ⟨rfl, hs0.drewN _⟩
end Go.Proofs.Ytccgbilgfnoheaa
