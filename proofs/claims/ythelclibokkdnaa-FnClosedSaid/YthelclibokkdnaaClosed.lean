/-
  The closed part of the books.
-/
import Derived.Test.YthelclibokkdnaaLedger
import Derived.Test.YthelclibokkdnaaCloneP
import Derived.Test.YthelclibokkdnaaFound
import Derived.Test.YthelclibokkdnaaCut
import Derived.BigQuiet
import Derived.Deep.Cut
namespace Go.Proofs.Ythelclibokkdnaa
open Go.RowKit

theorem isClosed_any (bb : Nat) (zc m d c z : Int) (w : World) (hb : w.cell? ⟨bb, 1, none⟩ = some (.int .i64 zc)) :
    Calls Try.prog 77 #[.agg #[.int .i64 m, .int .i64 d, .int .i64 c, .int .i64 z], .pointer (some ⟨bb, 0, none⟩)] w fun e w' => e = .returned (.bool (decide (zc ≤ m))) ∧ Same w w' := by
  go_enter Try.func77, Try.ntmps77
  have hlt := World.block_lt_of_cell? w _ hb
  go_wp2
  all_goals go_ret
  all_goals exact ⟨by first | rfl | exact ret_bool (by simp; omega), (Same.refl w).alloc _⟩

set_option maxHeartbeats 400000 in
theorem indexClosed_any (bb : Nat) (zc : Int) (A : Option Addr) (c : Nat) (L : List TPosting) (w : World) (hz : L.length ≤ 9223372036854775807) (hA : AtPosting w A L) (hbl : bb < w.heap.size) (hb : w.cell? ⟨bb, 1, none⟩ = some (.int .i64 zc)) :
    Calls Try.prog 80 #[.slice A L.length c, .func (.func 77) #[] #[.pointer (some ⟨bb, 0, none⟩)]] w fun e w' => ∃ r : Int, e = .returned (.int .i64 r) ∧ Found (fun x => decide (zc ≤ x.1)) L r ∧ Same w w' := by
  go_enter Try.func80, Try.ntmps80
  go_wp2
  go_loopw [8] (fun i wr => ∃ k : Nat, k ≤ L.length ∧ i = .int .i64 k ∧ Hid ((L.take k).all (fun x => !decide (zc ≤ x.1)) = true) ∧ Same w wr) (fun i _ => L.length - (intOf i).toNat)
  case atStart => exact ⟨0, Nat.zero_le _, rfl, by simp [Hid], Same.refl _⟩
  case round =>
    obtain ⟨k, hk, rfl, hall, hs⟩ := hrel
    by_cases hlt : k < L.length
    · obtain ⟨b, off, x, rfl, hc, HX, _⟩ := (hA.same hs).at_ hlt
      clear hA
      obtain ⟨f0, f1, f2, f3⟩ := x
      have c0 := hc 0 _ rfl
      have c1 := hc 1 _ rfl
      have c2 := hc 2 _ rfl
      have c3 := hc 3 _ rfl
      simp only [Nat.add_zero] at c0
      clear hc
      have hbc := (hs.cell (p := ⟨bb, 1, none⟩) hbl).trans hb
      go_wp2_with fail
      refine (isClosed_any bb zc f0 f1 f2 f3 _ hbc).mono ?_
      rintro e w1 ⟨rfl, hs1⟩
      have hss := hs.trans hs1
      clear hs hs1
      cases hp : decide (zc ≤ (f0, f1, f2, f3).1)
      · have HP := Lib.hid (all_take_succ hall.out HX.out (show (!decide (zc ≤ (f0, f1, f2, f3).1)) = true by rw [hp]; rfl))
        go_wp2
        go_roundw
        case rel => exact ⟨k + 1, hlt, by go_num, HP, hss⟩
        case measure => simp [intOf]; omega
      · have HP := Lib.hid (show Found (fun x => decide (zc ≤ x.1)) L k from .inr ⟨k, _, rfl, HX.out, hp, hall.out⟩)
        go_wp2
        go_ret
        exact ⟨_, rfl, HP.out, hss⟩
    · have hl := hall.out
      rw [show k = L.length by omega, List.take_length] at hl
      have HP := Lib.hid hl
      clear hl hall
      go_wp2
      go_ret
      exact ⟨_, rfl, .inl ⟨rfl, HP.out⟩, hs⟩

theorem take_set_same {α : Type} {D : List α} {p : Nat} {x : α} (h : p < D.length) : (D.set p x).take (p + 1) = D.take p ++ [x] := by
  rw [List.take_add_one, List.getElem?_set_self h, List.take_set_of_le (Nat.le_refl _)]
  rfl
theorem filter_take_yes {α : Type} {L : List α} {q : α → Bool} {k : Nat} {x : α} (hx : L[k]? = some x) (h : q x = true) : (L.take (k + 1)).filter q = (L.take k).filter q ++ [x] := by
  rw [List.take_add_one, hx, List.filter_append]
  simp [h]
theorem filter_take_no {α : Type} {L : List α} {q : α → Bool} {k : Nat} {x : α} (hx : L[k]? = some x) (h : q x = false) : (L.take (k + 1)).filter q = (L.take k).filter q := by
  rw [List.take_add_one, hx, List.filter_append]
  simp [h]
def openQ (zc : Int) (x : TPosting) : Bool := !decide (zc ≤ x.1)

set_option maxRecDepth 20000 in
set_option maxHeartbeats 2000000 in
theorem deleteClosed_any (bb : Nat) (zc : Int) (A : Option Addr) (c : Nat) (L : List TPosting) (w : World) (base : Nat) (hz : L.length ≤ 1000000000) (hown : OwnPosting w base (.slice A L.length c) L)
    (hbl : bb < base) (hbase : base ≤ w.heap.size) (hb : w.cell? ⟨bb, 1, none⟩ = some (.int .i64 zc)) :
    Calls Try.prog 76 #[.slice A L.length c, .func (.func 77) #[] #[.pointer (some ⟨bb, 0, none⟩)]] w fun e w' =>
      ∃ A' c', e = .returned (.slice A' (L.filter (openQ zc)).length c') ∧ OwnPosting w' base (.slice A' (L.filter (openQ zc)).length c') (L.filter (openQ zc)) ∧ Upd base w.heap.size w w' := by
  go_enter Try.func76, Try.ntmps76
  go_wp2_with fail
  refine (indexClosed_any bb zc A c L _ (by omega) (OwnR.recs cPosting_len hown) (by omega) hb).mono ?_
  rintro e w1 ⟨r, rfl, hf, hs1⟩
  have hU1 := hs1.upd base w.heap.size
  rcases hf with ⟨rfl, hall⟩ | ⟨k, x0, rfl, hx0, hp0, hall⟩
  · have HF := Lib.hid (show L.filter (openQ zc) = L by rw [List.filter_eq_self]; exact fun x hx => List.all_eq_true.1 hall x hx)
    clear hall
    go_wp2
    go_ret
    rw [HF.out]
    exact ⟨A, c, rfl, hown.same hs1, hU1⟩
  · have hk : k < L.length := (List.getElem?_eq_some_iff.1 hx0).1
    obtain ⟨g, rfl, hg1, hg2, _, _⟩ := OwnR.at_ cPosting_len hown hx0
    have hcap : L.length ≤ c := by
      rcases hown.2 with ⟨hv, _⟩ | ⟨g', cap, cur, hv, _, _, hc, _⟩
      · simp at hv
      · injection hv with _ _ hv
        omega
    have HF0 := Lib.hid (show L.take k = (L.take (k + 1)).filter (openQ zc) by
      rw [filter_take_no hx0 (show openQ zc x0 = false by simp [openQ, hp0])]
      exact (List.filter_eq_self.2 fun x hx => List.all_eq_true.1 hall x hx).symm)
    have HX0 := Lib.hid (show ∃ x ∈ L, openQ zc x = false from ⟨x0, List.mem_of_getElem? hx0, by simp [openQ, hp0]⟩)
    clear hx0 hp0 hall
    have hown1 := hown.same hs1
    clear hown
    have hc1 := (hs1.cell (p := ⟨bb, 1, none⟩) (by simp; omega)).trans hb
    clear hb
    have hne : ((k : Int) == -1) = false := beq_eq_false_iff_ne.2 (by omega)
    go_wp2
    go_loopw [5, 6] (fun i j wr => ∃ (p q : Nat) (D : List TPosting), p < q ∧ q ≤ L.length ∧ i = .int .i64 p ∧ j = .int .i64 q ∧ OwnPosting wr base (.slice (some ⟨g, 0, none⟩) L.length c) D ∧ Hid (D.length = L.length) ∧
        Hid (D.take p = (L.take q).filter (openQ zc)) ∧ Hid (∀ t, q ≤ t → D[t]? = L[t]?) ∧ Upd base w.heap.size w wr ∧ w.heap.size ≤ wr.heap.size ∧ wr.cell? ⟨bb, 1, none⟩ = some (.int .i64 zc)) (fun _ j _ => L.length - (intOf j).toNat)
    case atStart => exact ⟨k, k + 1, L, by omega, hk, rfl, by go_num, hown1, rfl, HF0, fun _ _ => rfl, hU1, hs1.size, hc1⟩
    case round =>
      obtain ⟨p, q, D, hpq, hq, rfl, rfl, hown, hD, hT, hR, hU, hn, hc⟩ := hrel
      clear hc1 hown1
      by_cases hlt : q < L.length
      · obtain ⟨x, hx⟩ : ∃ x, L[q]? = some x := ⟨_, List.getElem?_eq_getElem hlt⟩
        have hdx := (hR.out q (Nat.le_refl _)).trans hx
        obtain ⟨_, _, hd, _⟩ := hown.atg cPosting_len hdx
        have HX := Lib.hid hx
        clear hdx hx
        obtain ⟨f0, f1, f2, f3⟩ := x
        have d0 := hd 0 _ rfl
        have d1 := hd 1 _ rfl
        have d2 := hd 2 _ rfl
        have d3 := hd 3 _ rfl
        simp only [Nat.add_zero] at d0
        clear hd
        go_wp2_with fail
        have hx : BoxAt (wr.alloc (.cells #[.int .i64 f0, .int .i64 f1, .int .i64 f2, .int .i64 f3] 25)) (wr.heap.size) 25 [.int .i64 f0, .int .i64 f1, .int .i64 f2, .int .i64 f3] := by simpa using (BoxAt.new wr 25 [.int .i64 f0, .int .i64 f1, .int .i64 f2, .int .i64 f3])
        have hs3 := (Same.alloc (Same.refl wr) (.cells #[.int .i64 f0, .int .i64 f1, .int .i64 f2, .int .i64 f3] 25))
        generalize (wr.alloc (.cells #[.int .i64 f0, .int .i64 f1, .int .i64 f2, .int .i64 f3] 25)) = w3 at *
        have hc3 := (hs3.cell (p := ⟨bb, 1, none⟩) (by simp; omega)).trans hc
        refine (isClosed_any bb zc f0 f1 f2 f3 _ hc3).mono ?_
        rintro e w4 ⟨rfl, hs4⟩
        have hs5 := hs3.trans hs4
        have hlt3 := hx.lt
        have hsz4 := hs4.size
        replace hx := hx.same hs4
        replace hown := OwnR.same hown hs5
        have hU4 := hU.trans (hs5.upd _ _)
        have hc4 := (hs5.cell (p := ⟨bb, 1, none⟩) (by simp; omega)).trans hc
        have hn4 : w.heap.size ≤ w4.heap.size := by have := hs5.size; omega
        clear hs3 hs4 hs5 hU hc hc3 hn d0 d1 d2 d3
        by_cases hz2 : zc ≤ f0
        · rw [decide_eq_true hz2]
          have HT := Lib.hid (show D.take p = (L.take (q + 1)).filter (openQ zc) by rw [filter_take_no HX.out (by simp [openQ, hz2])]; exact hT.out)
          go_wp2
          go_roundw
          case rel => exact ⟨p, q + 1, D, by omega, hlt, rfl, by go_num, hown, hD, HT, fun t ht => hR.out t (by omega), hU4, hn4, hc4⟩
          case measure => simp [intOf]; omega
        · rw [decide_eq_false hz2]
          obtain ⟨u, hu⟩ : ∃ u, D[p]? = some u := ⟨_, List.getElem?_eq_getElem (by have := hD.out; omega)⟩
          obtain ⟨u0_, u1_, u2_, u3_⟩ := u
          obtain ⟨_, _, hd, hf⟩ := hown.atg cPosting_len hu
          have hst := hown.set cPosting_len (k := p) (by have := hD.out; omega) (f0, f1, f2, f3)
          have HW := Lib.hid (show w.heap.size ≤ (setAllW w4 g (p * 4) (cPosting (f0, f1, f2, f3))).heap.size ∧ (setAllW w4 g (p * 4) (cPosting (f0, f1, f2, f3))).cell? ⟨bb, 1, none⟩ = some (.int .i64 zc) from
            ⟨by have := hst.out.2.size; omega, by rw [World.cell?_of_block (hst.out.2.block bb (by omega) (by intro e; injection e; omega))]; exact hc4⟩)
          clear hu hown
          have d0 := hd 0 _ rfl
          have d1 := hd 1 _ rfl
          have d2 := hd 2 _ rfl
          have d3 := hd 3 _ rfl
          simp only [Nat.add_zero] at d0
          clear hd
          have e0 := hf (p * 4)
          have e1 := hf (p * 4 + 1)
          have e2 := hf (p * 4 + 2)
          have e3 := hf (p * 4 + 3)
          clear hf
          have y0 := hx.cell 0 rfl
          have y1 := hx.cell 1 rfl
          have y2 := hx.cell 2 rfl
          have y3 := hx.cell 3 rfl
          clear hx
          have HT := Lib.hid (show (D.set p (f0, f1, f2, f3)).take (p + 1) = (L.take (q + 1)).filter (openQ zc) by
            rw [filter_take_yes HX.out (by simp [openQ]; omega), take_set_same (by have := hD.out; omega), hT.out])
          have HR := Lib.hid (show ∀ t, q + 1 ≤ t → (D.set p (f0, f1, f2, f3))[t]? = L[t]? from fun t ht => by rw [List.getElem?_set_ne (by omega)]; exact hR.out t (by omega))
          go_wp2
          go_roundw
          case rel => exact ⟨p + 1, q + 1, D.set p (f0, f1, f2, f3), by omega, hlt, by go_num, by go_num, hst.out.1, by simpa [Hid] using hD.out, HT, HR, hU4.grown hst.out.2 hg1 hg2, HW.out.1, HW.out.2⟩
          case measure => simp [intOf]; omega
      · have hql : q = L.length := by omega
        have hp : p < L.length := by omega
        have hlen : (L.filter (openQ zc)).length = p := by
          have := hT.out
          rw [hql, List.take_length] at this
          rw [← this, List.length_take]
          have := hD.out
          omega
        have HF := Lib.hid (show D.take p = L.filter (openQ zc) by have := hT.out; rwa [hql, List.take_length] at this)
        have hpD : p < D.length := by have := hD.out; omega
        have hpc : p ≤ c := by omega
        have hDl := hD.out
        clear hT hD hR
        go_upto_region 11 with (fail)
        go_wp2_with (refine wpList_of rfl fun _ hK => wp_clear (.tmp 38) 36 rfl (.agg #[.int .i64 0, .int .i64 0, .int .i64 0, .int .i64 0]) 32 Try.underlying36 Try.infoPosting (by simp [Value.cells, Value.oneCell']) rfl cPosting_len hown (i := p) (c := c - p) hpD ?hx (fun w5 ho5 hg5 => hK _ _ ?_))
        case hx => rw [hDl]; rfl
        go_ret
        rw [hlen]
        have hw := ho5
        rw [HF.out] at hw
        exact ⟨_, _, rfl, hw, hU.grown hg5 hg1 hg2⟩
end Go.Proofs.Ythelclibokkdnaa
