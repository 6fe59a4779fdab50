/-
  BankOk of the program; banks compared.
-/
import Derived.Test.YtccgbilgfnoheaaBank
import Derived.Test.YtccgbilgfnoheaaAllIn
import Derived.Maps.OwnSet
namespace Go.Proofs.Ytccgbilgfnoheaa
open Go.RowKit Go.Maps

section
variable {H : Type}
theorem plainElem_bool_inv {P : Program} {e : TypeId} (he : P.underlying e = some .bool) {v : Value} {z : DataW H × List MemPlace} (h : plainElem P e v = some z) : ∃ a, v = .bool a ∧ z = (.lit (.bool a), []) := by
  unfold plainElem at h
  rw [he] at h
  cases v <;> simp at h
  exact ⟨_, rfl, h.symm⟩
/-- A look-up in a map whose elements are bools. -/
theorem wpList_lookup_own_bool {P : Program} (w : World) {ops : Array Oper} {rest : List Oper} {o : Oper} {a : Act} {Q : Exit → Act → World → Prop}
    (hg : o.guard = none) (m x : Operand) (t : TypeId) (hop : o.op = Op.lookup t m x false)
    (k e : TypeId) (K : Keyed P k) (ht : P.underlying t = some (.map k e)) (he : P.underlying e = some .bool) (hz : (zeroValue e).run P w = .ok (.bool false) w) (b n : Nat) (D : DataW H)
    (hm : a.eval m = .map (some b)) (hown : w.ownsMap P k (plainElem P e) b n D) (key : Value) (kl : Lit) (hx : a.eval x = key) (hkey : keyOf P k key = some kl)
    (c : Bool) (hat : D.atKey kl (.lit (.bool false)) = .lit (.bool c)) (hK : wpList P ops Q rest (a.put o.dst (.bool c)) w) :
    wpList P ops Q (o :: rest) a w := by
  refine wpList_plain hg fun K' hK' => ?_
  obtain ⟨v, ps, hrun, hv⟩ := hown.lookup K ht hz (plainElem_bool he false) hkey
  obtain ⟨c', rfl, hc⟩ := plainElem_bool_inv he hv
  simp only [Prod.mk.injEq] at hc
  have hcc : c' = c := by have h1 := hc.1.symm.trans hat; injection h1 with h1; injection h1
  subst hcc
  unfold Oper.wp
  simp [execOp, hop, hm, hx, hrun, Result.andThen]
  exact hK' _ _ hK

/-- The keys seen so far. -/
def seenD (L : List Int) : DataW Unit := setOf (.lit (.bool true)) (L.map (Lit.int .i64))
theorem seenD_snoc (L : List Int) (x : Int) : seenD (L ++ [x]) = (seenD L).put (.int .i64 x) (.lit (.bool true)) := by
  rw [seenD, List.map_append]
  exact setOf_snoc _ _ _
theorem seenD_isMap (L : List Int) : IsMap (seenD L) := by
  have : ∀ (acc : List Lit) (m : DataW Unit), IsMap m → IsMap (acc.foldl (fun m x => m.put x (.lit (.bool true))) m) := by
    intro acc
    induction acc with
    | nil => intro m h; exact h
    | cons x r ih => intro m h; exact ih _ (h.put _ _)
  exact this _ _ isMap_empty
theorem seenD_at (x : Int) : ∀ (n : Nat) (L : List Int), L.length = n → (seenD L).atKey (.int .i64 x) (.lit (.bool false)) = .lit (.bool (hasK L x))
  | 0, L, h => by
    obtain rfl : L = [] := List.eq_nil_of_length_eq_zero h
    rfl
  | n + 1, L, h => by
    have hne : L ≠ [] := by intro e; subst e; simp at h
    obtain ⟨L', y, rfl⟩ : ∃ L' y, L = L' ++ [y] := ⟨L.dropLast, L.getLast hne, (List.dropLast_concat_getLast hne).symm⟩
    have ih := seenD_at x n L' (by simpa using h)
    rw [seenD_snoc]
    by_cases e : y = x
    · subst e
      rw [atKey_put_same (seenD_isMap L') (show WideAt.IsKeyLit (.int .i64 y) from trivial)]
      simp [hasK]
    · rw [atKey_put_other (by simp; exact fun h => e h.symm), ih]
      simp [hasK, e]
end

theorem zeroBool (w : World) : (zeroValue 4).run Try.prog w = .ok (.bool false) w := by kernel_rfl
theorem keyInt : Keyed Try.prog 3 := int_keyed Try.underlying3
def Wide (K : List Int) : Prop := ∀ x ∈ K, (Lit.int .i64 x).wf = true

theorem allTo_and (p q : Nat → Bool) : ∀ n, allTo (fun i => p i && q i) n = (allTo p n && allTo q n)
  | 0 => rfl
  | n + 1 => by
    rw [allTo, allTo, allTo, allTo_and p q n]
    cases allTo p n <;> cases allTo q n <;> cases p n <;> cases q n <;> rfl
theorem allTo_all (q : Int → Bool) (L : List Int) : allTo (fun i => q (L.getD i 0)) L.length = L.all q := by
  rw [Bool.eq_iff_iff, allTo_iff, List.all_eq_true]
  constructor
  · intro h x hx
    obtain ⟨i, hi⟩ := List.mem_iff_getElem?.1 hx
    have := h i (List.getElem?_eq_some_iff.1 hi).1
    simpa [List.getD, hi] using this
  · intro h k hk
    exact h _ (by simp [List.getD, List.getElem?_eq_getElem hk])
theorem bankOk_eq {K C : List Int} (hl : K.length = C.length) (h2 : K.length ≤ 2000) : bankOk K C = (allTo (keyNew K) K.length && (K.all (fun z => inB z 0 3599999) && C.all (fun z => inB z 0 10000000))) := by
  have h1 : allTo (bankAt K C) K.length = (allTo (fun i => inB (K.getD i 0) 0 3599999 && inB (C.getD i 0) 0 10000000) K.length && allTo (keyNew K) K.length) := by
    rw [← allTo_and]; rfl
  have h3 : allTo (fun i => inB (K.getD i 0) 0 3599999 && inB (C.getD i 0) 0 10000000) K.length = (K.all (fun z => inB z 0 3599999) && C.all (fun z => inB z 0 10000000)) := by
    rw [allTo_and, allTo_all (fun z => inB z 0 3599999) K]
    rw [hl, allTo_all (fun z => inB z 0 10000000) C]
  rw [bankOk, decide_eq_true hl, decide_eq_true h2, h1, h3]
  cases allTo (keyNew K) K.length <;> simp
theorem bankOk_old {K C : List Int} {k : Nat} (hk : k < K.length) (h : keyNew K k = false) : bankOk K C = false := by
  rw [bankOk]
  by_cases hl : K.length = C.length
  · rw [allTo_false (p := bankAt K C) (by simp [bankAt, h]) hk]; simp
  · rw [decide_eq_false hl]; rfl
theorem keyNew_eq {K : List Int} {k : Nat} {x : Int} (hx : K[k]? = some x) : keyNew K k = !hasK (K.take k) x := by simp [keyNew, List.getD, hx]

set_option maxRecDepth 100000 in
set_option maxHeartbeats 2000000 in
theorem iBankOk_any (A B : Option Addr) (c d : Nat) (K C : List Int) (w : World) (hzK : K.length ≤ 9223372036854775807) (hzC : C.length ≤ 9223372036854775807) (hwK : Wide K) (hA : IntsAt w A K) (hB : IntsAt w B C) :
    Calls Try.prog 24 #[.agg #[.slice A K.length c, .slice B C.length d]] w fun e w' => e = .returned (.bool (bankOk K C)) ∧ Same w w' := by
  have hmm := @run_makeMap Try.prog
  have HWK := Lib.hid hwK
  clear hwK
  go_enter Try.func24, Try.ntmps24
  go_wp2
  have hb := (BoxAt.new w 29 [.slice A K.length c, .slice B C.length d]).alloc (.map #[] 0)
  have hm0 := World.ownsMap_made (w.alloc (.cells #[.slice A K.length c, .slice B C.length d] 29)) Try.prog 3 (plainElem (H := Unit) Try.prog 4)
  rw [show (w.alloc (.cells #[.slice A K.length c, .slice B C.length d] 29)).heap.size = w.heap.size + 1 by simp] at hm0
  have hs0 := ((Same.refl w).alloc (.cells #[.slice A K.length c, .slice B C.length d] 29)).alloc (.map #[] 0)
  generalize (w.alloc (.cells #[.slice A K.length c, .slice B C.length d] 29)).alloc (.map #[] 0) = w0 at *
  go_loopw [10] (fun i wr => ∃ k : Nat, k ≤ K.length ∧ i = .int .i64 k ∧ Hid (allTo (keyNew K) k = true) ∧ wr.ownsMap Try.prog 3 (plainElem (H := Unit) Try.prog 4) (w.heap.size + 1) k (seenD (K.take k)) ∧ BoxAt wr w.heap.size 29 [.slice A K.length c, .slice B C.length d] ∧ Same w wr) (fun i _ => K.length - (intOf i).toNat)
  case atStart => exact ⟨0, Nat.zero_le _, rfl, rfl, by rw [List.take_zero]; exact hm0, hb, hs0⟩
  case round =>
    obtain ⟨k, hk, rfl, hall, hown, hb, hs⟩ := hrel
    clear hm0 hs0 hmm
    by_cases hlt : k < K.length
    · obtain ⟨b, off, x, rfl, hc, HX, _⟩ := (hA.same hs).at_ hlt
      have hkey : keyOf Try.prog 3 (.int .i64 x) = some (.int .i64 x) := keyOf_int_mk Try.underlying3 (HWK.out x (List.mem_of_getElem? HX.out))
      have hmx : k < maxLen := by unfold maxLen; omega
      clear hA
      cases hm : hasK (K.take k) x
      · have hat := seenD_at x _ (K.take k) rfl
        rw [hm] at hat
        have HP := Lib.hid (show allTo (keyNew K) (k + 1) = true by rw [allTo, hall.out, keyNew_eq HX.out, hm]; rfl)
        go_wp2_with (first
          | (at_lookup; refine wpList_lookup_own_bool _ rfl _ _ 82 rfl 3 4 keyInt Try.underlying82 Try.underlying4 (zeroBool _) (w.heap.size + 1) k _ rfl hown _ _ rfl hkey false hat ?_)
          | (at_mapUpdate; refine wpList_mapUpdate_own _ rfl _ _ _ 82 rfl 3 4 keyInt Try.underlying82 (plainElem (H := Unit) Try.prog 4) (w.heap.size + 1) k _ rfl hown hmx _ _ _ rfl rfl hkey _ [] (plainElem_bool Try.underlying4 true) ?_; intro w1 hown1 hgrow1)
          | fail)
        go_roundw
        case rel => exact ⟨k + 1, hlt, by go_num, HP, by rw [List.take_add_one, HX.out, Option.toList_some, seenD_snoc]; exact hown1, (hgrow1.block _ hb.lt (by simp)).trans hb, hs.grown hgrow1 (by intro g hg; injection hg with hg; omega)⟩
        case measure => simp [intOf]; omega
      · have hat := seenD_at x _ (K.take k) rfl
        rw [hm] at hat
        have HP := Lib.hid (bankOk_old (C := C) hlt (by rw [keyNew_eq HX.out, hm]; rfl))
        go_wp2_with (at_lookup; refine wpList_lookup_own_bool _ rfl _ _ 82 rfl 3 4 keyInt Try.underlying82 Try.underlying4 (zeroBool _) (w.heap.size + 1) k _ rfl hown _ _ rfl hkey true hat ?_)
        go_ret
        exact ⟨ret_bool HP.out.symm, hs⟩
    · obtain rfl : k = K.length := by omega
      have b0 := hb.cell 0 rfl
      have b1 := hb.cell 1 rfl
      have HALL := Lib.hid hall.out
      clear hown
      by_cases hl : K.length = C.length
      · by_cases h2 : K.length ≤ 2000
        · have HE := Lib.hid (show bankOk K C = (K.all (fun z => inB z 0 3599999) && C.all (fun z => inB z 0 10000000)) by rw [bankOk_eq hl h2, HALL.out]; rfl)
          have e1 : ((K.length : Int) == (C.length : Int)) = true := by rw [hl]; simp
          have e2 : (K.length : Int) ≤ 2000 := by omega
          clear hl
          cases hk1 : K.all (fun z => inB z 0 3599999)
          · go_wp2_with fail
            refine (allWithin_any A c K 0 3599999 _ hzK (hA.same hs)).mono ?_
            rintro e w1 ⟨rfl, hs1⟩
            rw [hk1]
            go_wp2
            go_ret
            exact ⟨ret_bool (by rw [HE.out, hk1]; rfl), hs.trans hs1⟩
          · go_wp2_with fail
            refine (allWithin_any A c K 0 3599999 _ hzK (hA.same hs)).mono ?_
            rintro e w1 ⟨rfl, hs1⟩
            rw [hk1]
            have b1' := (hb.same hs1).cell 1 rfl
            go_wp2_with fail
            refine (allWithin_any B d C 0 10000000 _ hzC ((hB.same hs).same hs1)).mono ?_
            rintro e w2 ⟨rfl, hs2⟩
            go_wp2_with fail
            go_ret
            exact ⟨ret_bool (by rw [HE.out, hk1]; simp), (hs.trans hs1).trans hs2⟩
        · have HE := Lib.hid (show bankOk K C = false by rw [bankOk, decide_eq_false h2]; simp)
          have e1 : ((K.length : Int) == (C.length : Int)) = true := by rw [hl]; simp
          have e2 : ¬ (K.length : Int) ≤ 2000 := by omega
          clear hl
          go_wp2
          go_ret
          exact ⟨ret_bool HE.out.symm, hs⟩
      · have HE := Lib.hid (show bankOk K C = false by rw [bankOk, decide_eq_false hl]; simp)
        have e1 : ((K.length : Int) == (C.length : Int)) = false := by simp; omega
        go_wp2
        go_ret
        exact ⟨ret_bool HE.out.symm, hs⟩

set_option maxHeartbeats 400000 in
theorem eqBank_any (A B : Option Addr) (c d : Nat) (xs ys : List Int) (A2 B2 : Option Addr) (c2 d2 : Nat) (us vs : List Int) (w : World) (hx : xs.length ≤ 9223372036854775807) (hy : ys.length ≤ 9223372036854775807) (hA : IntsAt w A xs) (hB : IntsAt w B ys)
    (hx' : us.length ≤ 9223372036854775807) (hy' : vs.length ≤ 9223372036854775807) (hA2 : IntsAt w A2 us) (hB2 : IntsAt w B2 vs) :
    Calls Try.prog 28 #[.agg #[.slice A xs.length c, .slice A2 us.length c2], .agg #[.slice B ys.length d, .slice B2 vs.length d2]] w fun e w' => e = .returned (.bool (decide (xs = ys) && decide (us = vs))) ∧ Same w w' := by
  by_cases h : xs = ys
  · have H := Lib.hid h
    clear h
    go_enter Try.func28, Try.ntmps28
    go_wp2_with fail
    have h1 : BoxAt ((w.alloc (.cells #[.slice A xs.length c, .slice A2 us.length c2] 29)).alloc (.cells #[.slice B ys.length d, .slice B2 vs.length d2] 29)) (w.heap.size) 29 [.slice A xs.length c, .slice A2 us.length c2] := by simpa using (BoxAt.alloc (BoxAt.new w 29 [.slice A xs.length c, .slice A2 us.length c2]) (.cells #[.slice B ys.length d, .slice B2 vs.length d2] 29))
    have h2 : BoxAt ((w.alloc (.cells #[.slice A xs.length c, .slice A2 us.length c2] 29)).alloc (.cells #[.slice B ys.length d, .slice B2 vs.length d2] 29)) (w.heap.size + 1) 29 [.slice B ys.length d, .slice B2 vs.length d2] := by simpa using (BoxAt.new (w.alloc (.cells #[.slice A xs.length c, .slice A2 us.length c2] 29)) 29 [.slice B ys.length d, .slice B2 vs.length d2])
    have hs0 := (Same.alloc (Same.alloc (Same.refl w) (.cells #[.slice A xs.length c, .slice A2 us.length c2] 29)) (.cells #[.slice B ys.length d, .slice B2 vs.length d2] 29))
    generalize ((w.alloc (.cells #[.slice A xs.length c, .slice A2 us.length c2] 29)).alloc (.cells #[.slice B ys.length d, .slice B2 vs.length d2] 29)) = w0 at *
    refine (eqIntS_any A B c d xs ys _ hx hy (hA.same hs0) (hB.same hs0)).mono ?_
    rintro e w1 ⟨rfl, hd1⟩
    rw [decide_eq_true H.out]
    have b1 := (h1.drew hd1).cell 1 rfl
    have b2 := (h2.drew hd1).cell 1 rfl
    have hs1 := hs0.drewed hd1
    go_wp2_with fail
    refine (eqIntS_any A2 B2 c2 d2 us vs _ hx' hy' (hA2.same hs1) (hB2.same hs1)).mono ?_
    rintro e w2 ⟨rfl, hd2⟩
    by_cases h' : us = vs
    · rw [decide_eq_true h']
      have H' := Lib.hid h'
      clear h'
      go_wp2
      go_ret
      exact ⟨ret_bool (by simp [H.out, H'.out]), hs1.drewed hd2⟩
    · rw [decide_eq_false h']
      have H' := Lib.hid h'
      clear h'
      go_wp2
      go_ret
      exact ⟨ret_bool (by simp [H.out, H'.out]), hs1.drewed hd2⟩
  · have H := Lib.hid h
    clear h
    go_enter Try.func28, Try.ntmps28
    go_wp2_with fail
    have h1 : BoxAt ((w.alloc (.cells #[.slice A xs.length c, .slice A2 us.length c2] 29)).alloc (.cells #[.slice B ys.length d, .slice B2 vs.length d2] 29)) (w.heap.size) 29 [.slice A xs.length c, .slice A2 us.length c2] := by simpa using (BoxAt.alloc (BoxAt.new w 29 [.slice A xs.length c, .slice A2 us.length c2]) (.cells #[.slice B ys.length d, .slice B2 vs.length d2] 29))
    have h2 : BoxAt ((w.alloc (.cells #[.slice A xs.length c, .slice A2 us.length c2] 29)).alloc (.cells #[.slice B ys.length d, .slice B2 vs.length d2] 29)) (w.heap.size + 1) 29 [.slice B ys.length d, .slice B2 vs.length d2] := by simpa using (BoxAt.new (w.alloc (.cells #[.slice A xs.length c, .slice A2 us.length c2] 29)) 29 [.slice B ys.length d, .slice B2 vs.length d2])
    have hs0 := (Same.alloc (Same.alloc (Same.refl w) (.cells #[.slice A xs.length c, .slice A2 us.length c2] 29)) (.cells #[.slice B ys.length d, .slice B2 vs.length d2] 29))
    generalize ((w.alloc (.cells #[.slice A xs.length c, .slice A2 us.length c2] 29)).alloc (.cells #[.slice B ys.length d, .slice B2 vs.length d2] 29)) = w0 at *
    refine (eqIntS_any A B c d xs ys _ hx hy (hA.same hs0) (hB.same hs0)).mono ?_
    rintro e w1 ⟨rfl, hd1⟩
    rw [decide_eq_false H.out]
    go_wp2
    go_ret
    exact ⟨ret_bool (by simp [H.out]), hs0.drewed hd1⟩
end Go.Proofs.Ytccgbilgfnoheaa
