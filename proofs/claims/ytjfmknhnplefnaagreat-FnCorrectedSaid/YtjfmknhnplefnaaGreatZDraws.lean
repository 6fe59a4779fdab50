/- Joined of DrawFact, DrawSpell, DrawEvent, DrawMember, DrawPoint: what is proved stands ahead of each part. -/
import Derived.Test.YtjfmknhnplefnaaGreatZDraw
import Derived.Test.YtjfmknhnplefnaaGreatZFineK
import Derived.Test.YtjfmknhnplefnaaGreatZCaseMem
import Derived.IntWalk
import Derived.Deep.Cut
import Derived.Deep.CutRange
import Derived.Deep.RegionLaw
import Derived.Test.YtjfmknhnplefnaaGreatZEventsOk
import Derived.BigQuiet

section
/-
  Facts, drawn.
-/
namespace Go.Proofs.YtjfmknhnplefnaaGreat
open Go.RowKit
set_option linter.unusedVariables false
set_option linter.unusedSimpArgs false

theorem Upd.set {lo hi : Nat} {a b : World} (h : Upd lo hi a b) {g j : Nat} (hg : a.heap.size ≤ g) (u : Value) : Upd lo hi a (b.setCell ⟨g, j, none⟩ u) :=
  h.trans' (upd_setCell b g j u) hg
theorem Upd.grow {lo hi : Nat} {a b c : World} {row : Option Nat} (h : Upd lo hi a b) (k : b.grownBy c row) (hr : ∀ g, row = some g → a.heap.size ≤ g) : Upd lo hi a c :=
  ⟨k.os.trans h.os, k.tape.trans h.tape, k.output.trans h.output, Nat.le_trans h.size k.size, fun i hi ho => (k.block i (Nat.lt_of_lt_of_le hi h.size) (fun e => by have := hr i e.symm; omega)).trans (h.block i hi ho)⟩
theorem Upd.same {lo hi : Nat} {a b c : World} (h : Upd lo hi a b) (k : Same b c) : Upd lo hi a c := h.trans (k.upd lo hi)
theorem Cur.grow {a b : World} {g : Nat} {row : Option Nat} (h : Cur a g) (k : a.grownBy b row) (hr : ∀ b', row = some b' → g < b') : Cur b g := by
  obtain ⟨A, n, c, i, x, hc⟩ := h
  refine ⟨A, n, c, i, x, ?_, hc.2.1, hc.2.2.1, hc.2.2.2.keep fun p hp => World.cell?_of_block (k.block _ (Nat.lt_trans hp hc.lt) (fun e => ?_))⟩
  · rw [k.block g hc.lt (fun e => by have := hr g e.symm; omega)]; exact hc.1
  · have := hr _ e.symm; omega
/-- A row of the call's own, while a cursor turns. -/
theorem OwnR.turn {T : Type} {e : TypeId} {s : Nat} {cells : T → List Value} {a b : World} {g base : Nat} {v : Value} {L : List T} (h : OwnR e s cells a base v L) (hu : Upd g (g + 1) a b) (hg : g < base) : OwnR e s cells b base v L :=
  OwnR.upd h hu (OwnR.zn h) (.inr hg)

set_option maxHeartbeats 1000000 in
theorem l05Fact_any (g : Nat) (y : Int) (w : World) (hc : Cur w g) : Calls Tryz.prog 156 #[.pointer (some ⟨g, 0, none⟩), .int .i64 y] w fun e w' =>
    ∃ x : TFact, e = .returned (.agg #[.int .i64 x.1, .int .i64 x.2.1, .int .i64 x.2.2.1, .int .i64 x.2.2.2.1, .int .i64 x.2.2.2.2]) ∧ Cur w' g ∧ Upd g (g + 1) w w' := by
  have hg := hc.lt
  go_enter Tryz.func156, Tryz.ntmps156
  go_wp2_with fail
  have hb : BoxAt (w.alloc (.cells #[.int .i64 0, .int .i64 0, .int .i64 0, .int .i64 0, .int .i64 0] 140)) (w.heap.size) 140 [.int .i64 0, .int .i64 0, .int .i64 0, .int .i64 0, .int .i64 0] := by simpa using (BoxAt.new w 140 [.int .i64 0, .int .i64 0, .int .i64 0, .int .i64 0, .int .i64 0])
  have hs0 := (Same.alloc (Same.refl w) (.cells #[.int .i64 0, .int .i64 0, .int .i64 0, .int .i64 0, .int .i64 0] 140))
  generalize (w.alloc (.cells #[.int .i64 0, .int .i64 0, .int .i64 0, .int .i64 0, .int .i64 0] 140)) = w0 at *
  refine (l01Below_any g 60 _ (by omega) (by omega) (hc.same hs0)).mono ?_
  rintro e w1 ⟨a, rfl, a0, a1, hc1, hu1⟩
  go_wp2_with fail
  refine (l01Below_any g 4 _ (by omega) (by omega) hc1).mono ?_
  rintro e w2 ⟨b, rfl, b0, b1, hc2, hu2⟩
  go_wp2_with fail
  refine (l01Below_any g 40 _ (by omega) (by omega) hc2).mono ?_
  rintro e w3 ⟨d, rfl, d0, d1, hc3, hu3⟩
  go_wp2_with fail
  refine (l01Below_any g 500 _ (by omega) (by omega) hc3).mono ?_
  rintro e w4 ⟨z, rfl, z0, z1, hc4, hu4⟩
  have U := ((hu1.trans hu2).trans hu3).trans hu4
  have H4 := hb.upd U (.inr (by omega))
  have k1 : IntKind.i64.wrap (1 + b) = 1 + b := IntWalk.i64_in _ (by omega)
  have k2 : IntKind.i64.wrap (a + 1) = a + 1 := IntWalk.i64_in _ (by omega)
  have k3 : IntKind.i64.wrap (a + 1 + d) = a + 1 + d := IntWalk.i64_in _ (by omega)
  have k4 : IntKind.i64.wrap (z * 100) = z * 100 := IntWalk.i64_in _ (by omega)
  have f0 := H4.frozen 0
  have f1 := H4.frozen 1
  have f2 := H4.frozen 2
  have f3 := H4.frozen 3
  have f4 := H4.frozen 4
  have c0 := H4.cell 0 rfl
  have c1 := H4.cell 1 rfl
  have c2 := H4.cell 2 rfl
  have c3 := H4.cell 3 rfl
  have c4 := H4.cell 4 rfl
  have K1 := H4.set 0 (.int .i64 (1 + b))
  have K2 := K1.set 1 (.int .i64 a)
  have K3 := K2.set 2 (.int .i64 (a + 1 + d))
  have K4 := K3.set 3 (.int .i64 y)
  have K5 := K4.set 4 (.int .i64 (z * 100))
  have y0 := K5.cell 0 rfl
  have y1 := K5.cell 1 rfl
  have y2 := K5.cell 2 rfl
  have y3 := K5.cell 3 rfl
  have y4 := K5.cell 4 rfl
  go_wp2
  refine bodyPost_ret (v := .agg #[.int .i64 (1 + b), .int .i64 a, .int .i64 (a + 1 + d), .int .i64 y, .int .i64 (z * 100)]) (by simp [results, Tryz.results156, go_sem, y0, y1, y2, y3, y4]) rfl ⟨(1 + b, a, a + 1 + d, y, z * 100), rfl, ?_, ?_⟩
  · exact ((((hc4.upd (upd_setCell _ _ _ _) hg).upd (upd_setCell _ _ _ _) hg).upd (upd_setCell _ _ _ _) hg).upd (upd_setCell _ _ _ _) hg).upd (upd_setCell _ _ _ _) hg
  · exact ((((((hs0.upd g (g + 1)).trans U).set (Nat.le_refl _) _).set (Nat.le_refl _) _).set (Nat.le_refl _) _).set (Nat.le_refl _) _).set (Nat.le_refl _) _

/-- A list of records in a boxed struct of one field, while it is drawn: the struct's box lies in block gl, the row in blocks from B on. -/
structure DrSt {T : Type} (ty bt : TypeId) (s : Nat) (cells : T → List Value) (w wr : World) (g gl B : Nat) (k : Nat) (A : Option Addr) (c : Nat) (L : List T) : Prop where
  len : L.length ≤ k
  box : BoxAt wr gl bt [.slice A L.length c]
  own : OwnR ty s cells wr B (.slice A L.length c) L
  cur : Cur wr g
  upd : Upd g (g + 1) w wr
section
variable {T : Type} {ty bt : TypeId} {s : Nat} {cells : T → List Value} {w wr wr' : World} {g gl B k : Nat} {A : Option Addr} {c : Nat} {L : List T}
theorem DrSt.draw (h : DrSt ty bt s cells w wr g gl B k A c L) (hu : Upd g (g + 1) wr wr') (hc : Cur wr' g) (h1 : g < gl) (h2 : g < B) : DrSt ty bt s cells w wr' g gl B k A c L :=
  ⟨h.len, h.box.upd hu (.inr h1), OwnR.turn h.own hu h2, hc, h.upd.trans hu⟩
theorem DrSt.same (h : DrSt ty bt s cells w wr g gl B k A c L) (hs : Same wr wr') : DrSt ty bt s cells w wr' g gl B k A c L :=
  ⟨h.len, h.box.same hs, h.own.same hs, h.cur.same hs, h.upd.trans (hs.upd _ _)⟩
theorem DrSt.push (h : DrSt ty bt s cells w wr g gl B k A c L) {A' : Option Addr} {c' n' : Nat} {x : T} (ho : OwnR ty s cells wr' B (.slice A' n' c') (L ++ [x])) (hn : n' = (L ++ [x]).length) (hg : wr.grownBy wr' (Value.slice A L.length c).ownBlock) (h0 : g < gl) (h1 : g < B) (h2 : gl < B) (hw : w.heap.size ≤ gl) (hB : B ≤ wr.heap.size) :
    DrSt ty bt s cells w (wr'.setCell ⟨gl, 0, none⟩ (.slice A' n' c')) g gl B (k + 1) A' c' (L ++ [x]) := by
  subst hn
  have hz := OwnR.zn h.own
  refine ⟨by simp; have := h.len; omega, ?_, ?_, ?_, ?_⟩
  · exact (grown_box hg h.box (fun e => by have := (hz _ e).1; omega)).set 0 _
  · exact OwnR.upd ho (upd_setCell _ _ _ _) (OwnR.zn ho) (.inr (by omega))
  · exact (h.cur.grow hg (fun b' e => by have := (hz _ e).1; omega)).upd (upd_setCell _ _ _ _) (by omega)
  · exact (h.upd.grow hg (fun b' e => by have := (hz _ e).1; omega)).set hw _
end

set_option maxRecDepth 100000 in
set_option maxHeartbeats 2000000 in
theorem l05Store_any (g : Nat) (w : World) (hc : Cur w g) : Calls Tryz.prog 99 #[.pointer (some ⟨g, 0, none⟩)] w fun e w' =>
    ∃ (L : List TFact) (A : Option Addr) (c : Nat), e = .returned (.agg #[.slice A L.length c]) ∧ L.length ≤ 10 ∧ OwnFact w' w.heap.size (.slice A L.length c) L ∧ Cur w' g ∧ Upd g (g + 1) w w' := by
  have hg := hc.lt
  go_enter Tryz.func99, Tryz.ntmps99
  go_wp2_with fail
  have h1 : BoxAt ((w.alloc (.cells #[.slice none 0 0] 29)).alloc (.cells #[.slice none 0 0] 29)) (w.heap.size) 29 [.slice none 0 0] := by simpa using (BoxAt.alloc (BoxAt.new w 29 [.slice none 0 0]) (.cells #[.slice none 0 0] 29))
  have h2 : BoxAt ((w.alloc (.cells #[.slice none 0 0] 29)).alloc (.cells #[.slice none 0 0] 29)) (w.heap.size + 1) 29 [.slice none 0 0] := by simpa using (BoxAt.new (w.alloc (.cells #[.slice none 0 0] 29)) 29 [.slice none 0 0])
  have hs0 := (Same.alloc (Same.alloc (Same.refl w) (.cells #[.slice none 0 0] 29)) (.cells #[.slice none 0 0] 29))
  generalize ((w.alloc (.cells #[.slice none 0 0] 29)).alloc (.cells #[.slice none 0 0] 29)) = w0 at *
  have n0 := hs0.size
  have nn := h2.lt
  refine (l01Below_any g 10 _ (by omega) (by omega) (hc.same hs0)).mono ?_
  rintro e w1 ⟨y0, rfl, a0, a1, hc1, hu1⟩
  replace h1 := h1.upd hu1 (.inr (by omega))
  replace h2 := h2.upd hu1 (.inr (by omega))
  have n1 := hu1.size
  have U1 := (hs0.upd g (g + 1)).trans hu1
  go_wp2
  go_loopw [4, 5] (fun t4 t5 wr => ∃ (k : Nat) (y : Int) (A : Option Addr) (c : Nat) (L : List TFact), k ≤ 9 ∧ t4 = .int .i64 y ∧ 0 ≤ y ∧ y ≤ 9 + 11 * (k : Int) ∧ t5 = .int .i64 k ∧ DrSt 140 29 5 cFact w wr g (w.heap.size + 1) (w.heap.size + 1 + 1) k A c L ∧ BoxAt wr w.heap.size 29 [.slice none 0 0] ∧ w1.heap.size ≤ wr.heap.size) (fun _ t5 _ => 10 - (intOf t5).toNat)
  case atStart => exact ⟨0, y0, none, 0, [], by omega, rfl, a0, by omega, rfl, ⟨Nat.le_refl _, h2, OwnR.nil _ _ _ _ _, hc1, U1⟩, h1, Nat.le_refl _⟩
  case round =>
    obtain ⟨k, y, A, c, L, hk, rfl, hy0, hy1, rfl, st, hb, nw⟩ := hrel
    clear h1 h2
    go_wp2_with fail
    refine (l01Below_any g 10 _ (by omega) (by omega) st.cur).mono ?_
    rintro e w2 ⟨x, rfl, x0, x1, hc2, hu2⟩
    replace st := st.draw hu2 hc2 (by omega) (by omega)
    replace hb := hb.upd hu2 (.inr (by omega))
    replace nw := Nat.le_trans nw hu2.size
    clear hc2 hu2
    by_cases hlt : (k : Int) < x
    · go_wp2_with fail
      refine (l01Below_any g 12 _ (by omega) (by omega) st.cur).mono ?_
      rintro e w3 ⟨p, rfl, p0, p1, hc3, hu3⟩
      replace st := st.draw hu3 hc3 (by omega) (by omega)
      replace hb := hb.upd hu3 (.inr (by omega))
      replace nw := Nat.le_trans nw hu3.size
      clear hc3 hu3
      have ky : IntKind.i64.wrap (y + p) = y + p := IntWalk.i64_in _ (by omega)
      have b0 := st.box.cell 0 rfl
      have st1 := st.same (Same.refl _).drew
      have hb1 := hb.same (Same.refl _).drew
      have nd : w1.heap.size ≤ w3.drew.heap.size := nw
      go_wp2
      go_region_law
        (first
          | (refine step_of (by rfl) ?_; go_simp; go_at_call 156; refine (l05Fact_any g (y + p) _ st1.cur).mono ?_; rintro e w4 ⟨q, rfl, hc4, hu4⟩; dsimp only; (have st2 := st1.draw hu4 hc4 (by omega) (by omega)); (have hb2 := hb1.upd hu4 (.inr (by omega))); (have b2 := st2.box.cell 0 rfl); (have nw2 := Nat.le_trans nd hu4.size); (have ha := (Same.refl w4).alloc (.cells #[.int .i64 q.1, .int .i64 q.2.1, .int .i64 q.2.2.1, .int .i64 q.2.2.2.1, .int .i64 q.2.2.2.2] 140)); (have st3 := st2.same ha); (have b3 := st3.box.cell 0 rfl); (have hl3 := st3.len); (have hn4 := st2.box.lt))
          | (refine step_oneFact _ (by rfl) (.tmp 20) (.tmp 24) (by rfl) (w.heap.size + 1 + 1) _ L (by rfl) st3.own w4.heap.size 1 q (by rfl) (by intro j u hu; exact cells_new rfl j u hu) (by omega) (by simp) (by simp; omega) ?_; intro v' w5 ho5 hup hfr; (obtain ⟨A5, c5, rfl⟩ := OwnR.form ho5); (have hbf := (grown_box hup st3.box (fun e => by have := (OwnR.zn st3.own _ e).1; omega)).frozen 0); (have hbc := (grown_box hup st3.box (fun e => by have := (OwnR.zn st3.own _ e).1; omega)).cell 0 rfl)))
      all_goals
        have hz := OwnR.zn st3.own
        have st4 := st3.push ho5 rfl hup (by omega) (by omega) (by omega) (by omega) (by simp; omega)
        have hb4 := (grown_box hup (hb2.same ha) (fun e => by have := (hz _ e).1; omega)).other (k := w.heap.size + 1) (j := 0) (.slice A5 (L ++ [q]).length c5) (by omega)
        have n5 := hup.size
        simp only [World.size_alloc] at n5
        simp only [List.length_append, List.length_singleton] at st4 hb4
        go_wp2
        go_roundw
        case rel => exact ⟨k + 1, y + p, _, _, _, by omega, rfl, by omega, by omega, by go_num, st4, hb4, by simp; omega⟩
        case measure => simp [intOf]; omega
    · have b0 := st.box.cell 0 rfl
      have q0 := hb.frozen 0
      have qc := hb.cell 0 rfl
      have q1 := (hb.set 0 (.slice A L.length c)).cell 0 rfl
      have sl := st.len
      have so := OwnR.upd st.own (upd_setCell w2 w.heap.size 0 (.slice A L.length c)) (OwnR.zn st.own) (.inr (by omega))
      have sc := st.cur.upd (upd_setCell w2 w.heap.size 0 (.slice A L.length c)) hg
      have su := st.upd.set (j := 0) (Nat.le_refl _) (.slice A L.length c)
      go_wp2
      exact bodyPost_ret (v := .agg #[.slice A L.length c]) (by simp [results, Tryz.results99, go_sem, q1]) rfl ⟨L, A, c, rfl, by omega, OwnR.rebase so (by omega), sc, su⟩
end Go.Proofs.YtjfmknhnplefnaaGreat
end

section
/-
  Spells of service, drawn.
-/
namespace Go.Proofs.YtjfmknhnplefnaaGreat
open Go.RowKit
set_option linter.unusedVariables false
set_option linter.unusedSimpArgs false

theorem l01Once_any (g : Nat) (n : Int) (w : World) (hn : 0 < n) (hm : n ≤ 1000000000) (hc : Cur w g) : Calls Tryz.prog 161 #[.pointer (some ⟨g, 0, none⟩), .int .i64 n] w fun e w' => ∃ b : Bool, e = .returned (.bool b) ∧ Cur w' g ∧ Upd g (g + 1) w w' := by
  go_enter Tryz.func161, Tryz.ntmps161
  go_wp2_with fail
  refine (l01Below_any g n _ hn hm hc).mono ?_
  rintro e w1 ⟨x, rfl, h0, h1, hc1, hu1⟩
  go_wp2
  go_ret
  exact ⟨_, rfl, hc1, hu1⟩

set_option maxHeartbeats 2000000 in
theorem l11Spells_any (g : Nat) (w : World) (hc : Cur w g) : Calls Tryz.prog 157 #[.pointer (some ⟨g, 0, none⟩)] w (DrawnR 160 4 cSpell g (fun L : List TSpell => L.length ≤ 7) w) := by
  have hg := hc.lt
  have he := OwnR.empty 160 4 cSpell w (Nat.le_refl _)
  go_enter Tryz.func157, Tryz.ntmps157
  go_wp2_with fail
  refine (l01Below_any g 20 _ (by omega) (by omega) (hc.same ((Same.refl _).alloc _))).mono ?_
  rintro e w1 ⟨y0, rfl, a0, a1, hc1, hu1⟩
  have hown := OwnR.turn he hu1 hg
  have hw := hu1.size
  simp only [World.size_alloc] at hw
  have U1 := (((Same.refl w).alloc (.cells #[] 160)).upd g (g + 1)).trans hu1
  clear hu1 he
  go_wp2
  go_loopw [3, 4, 5] (fun o m i wr => ∃ (k : Nat) (y : Int) (L : List TSpell), k ≤ 6 ∧ i = .int .i64 k ∧ m = .int .i64 y ∧ L.length ≤ k ∧ 0 ≤ y ∧ y ≤ 19 + 37 * (k : Int) ∧ OwnSpell wr w.heap.size o L ∧ Cur wr g ∧ Upd g (g + 1) w wr ∧ w.heap.size ≤ wr.heap.size) (fun _ _ i _ => 7 - (intOf i).toNat)
  case atStart => exact ⟨0, y0, [], by omega, rfl, rfl, Nat.le_refl _, a0, by omega, hown, hc1, U1, by omega⟩
  case round =>
    clear hown hc1 U1
    obtain ⟨k, y, L, hk, rfl, rfl, hl, hy0, hy1, hown, hc1, U1, hw1⟩ := hrel
    go_wp2_with fail
    refine (l01Below_any g 7 _ (by omega) (by omega) hc1).mono ?_
    rintro e w2 ⟨q, rfl, q0, q1, hc2, hu2⟩
    replace hown := OwnR.turn hown hu2 hg
    have U2 := U1.trans hu2
    have hw2 := Nat.le_trans hw1 hu2.size
    clear hu2 U1 hc1
    by_cases hlt : (k : Int) < q
    · go_wp2_with fail
      refine (l01Below_any g 8 _ (by omega) (by omega) hc2).mono ?_
      rintro e w3 ⟨p, rfl, p0, p1, hc3, hu3⟩
      replace hown := OwnR.turn hown hu3 hg
      have U3 := U2.trans hu3
      have hw3 := Nat.le_trans hw2 hu3.size
      clear hu3 U2 hc2
      go_wp2_with fail
      refine (l01Below_any g 2 _ (by omega) (by omega) hc3).mono ?_
      rintro e w4 ⟨s, rfl, s0, s1, hc4, hu4⟩
      replace hown := OwnR.turn hown hu4 hg
      have U4 := U3.trans hu4
      have hw4 := Nat.le_trans hw3 hu4.size
      clear hu4 U3 hc3
      obtain ⟨z, hz⟩ : ∃ z, z = p * s := ⟨_, rfl⟩
      have hz1 : 0 ≤ z ∧ z ≤ 7 := by
        rcases (show s = 0 ∨ s = 1 by omega) with h | h <;> subst h <;> omega
      have kz : IntKind.i64.wrap (p * s) = z := by rw [hz]; exact IntWalk.i64_in _ (by rw [← hz]; omega)
      have ky : IntKind.i64.wrap (y + z) = y + z := IntWalk.i64_in _ (by omega)
      clear hz
      go_wp2_with fail
      refine (l01Below_any g 30 _ (by omega) (by omega) hc4).mono ?_
      rintro e w5 ⟨u, rfl, u0, u1, hc5, hu5⟩
      replace hown := OwnR.turn hown hu5 hg
      have U5 := U4.trans hu5
      have hw5 := Nat.le_trans hw4 hu5.size
      clear hu5 U4 hc4
      go_wp2_with fail
      refine (pickInt_any g w5.heap.size [100, 100, 50, 80, 1] _ (by simp) (by simp) (by omega) (by simp) ?_ (hc5.same ((Same.refl _).alloc _))).mono ?_
      · intro j x hj
        match j, hj with
        | 0, hj => simp at hj; subst hj; simp
        | 1, hj => simp at hj; subst hj; simp
        | 2, hj => simp at hj; subst hj; simp
        | 3, hj => simp at hj; subst hj; simp
        | 4, hj => simp at hj; subst hj; simp
        | j + 5, hj => simp at hj
      rintro e w6 ⟨r, rfl, hr, hc6, hu6⟩
      clear hr
      replace hown := OwnR.turn (OwnR.alloc hown (.cells #[.int .i64 100, .int .i64 100, .int .i64 50, .int .i64 80, .int .i64 1] 3)) hu6 hg
      have U6 := (U5.trans (((Same.refl w5).alloc _).upd _ _)).trans hu6
      have hw6 := hu6.size
      simp only [World.size_alloc] at hw6
      clear hu6 U5 hc5
      go_wp2_with fail
      refine (l01Once_any g 5 _ (by omega) (by omega) hc6).mono ?_
      rintro e w7 ⟨bb, rfl, hc7, hu7⟩
      replace hown := OwnR.turn hown hu7 hg
      have U7 := U6.trans hu7
      have hw7 := hu7.size
      clear hu7 U6 hc6
      go_wp2_with (at_builtin; refine wpList_of rfl fun _ hK => wp_oneSpell _ (.tmp 28) (.tmp 37) rfl w.heap.size _ L rfl (OwnR.alloc hown _) w7.heap.size 1 (y + z, y + z + 1 + u, r, bb) rfl (cells_new rfl) (by omega) (by simp) (by simp; omega) (fun v' w8 ho8 hup hfr => hK _ _ ?_))
      have hgr : ∀ b, (Value.ownBlock _ = some b) → w.heap.size ≤ b := fun b hb => (OwnR.zn hown b hb).1
      have U8 := (U7.trans (((Same.refl w7).alloc _).upd _ _)).grow hup hgr
      have hc8 := (hc7.same ((Same.refl _).alloc _)).grow hup (fun b hb => by have := hgr b hb; omega)
      have hw8 := hup.size
      simp only [World.size_alloc] at hw8
      clear hup hfr hgr U7 hc7
      go_wp2
      go_roundw
      case rel => exact ⟨k + 1, _, _, by omega, by go_num, rfl, by simp; omega, by omega, by omega, ho8, hc8, U8, by omega⟩
      case measure => simp [intOf]; omega
    · go_wp2
      go_ret
      exact DrawnR.of hown (by omega) hc2 U2
end Go.Proofs.YtjfmknhnplefnaaGreat
end

section
/-
  Events, added and drawn.
-/
namespace Go.Proofs.YtjfmknhnplefnaaGreat
open Go.RowKit
set_option linter.unusedVariables false
set_option linter.unusedSimpArgs false

set_option maxRecDepth 10000 in
set_option maxHeartbeats 1000000 in
theorem addEvent_any (A : Option Addr) (c : Nat) (L : List TEvent) (k0 m0 : Int) (w : World) (hz : L.length ≤ 1000) (hnil : A = none → c = 0) (hA : AtEvent w A L) :
    Calls Tryz.prog 188 #[.slice A L.length c, .agg #[.int .i64 k0, .int .i64 m0]] w fun e w' =>
      ∃ (M : List TEvent) (B : Option Addr) (d : Nat) (bb : Bool), e = .returned (.tuple #[.slice B M.length d, .bool bb]) ∧ M.length ≤ L.length + 1 ∧ OwnEvent w' w.heap.size (.slice B M.length d) M ∧ Same w w' := by
  go_enter Tryz.func188, Tryz.ntmps188
  go_wp2
  have hem := OwnR.empty 95 2 cEvent (w.alloc (.cells #[.int .i64 k0, .int .i64 m0] 95)) (Nat.le_refl _)
  simp only [World.size_alloc] at hem
  have h1 : BoxAt ((w.alloc (.cells #[.int .i64 k0, .int .i64 m0] 95)).alloc (.cells #[] 95)) (w.heap.size) 95 [.int .i64 k0, .int .i64 m0] := by simpa using (BoxAt.alloc (BoxAt.new w 95 [.int .i64 k0, .int .i64 m0]) (.cells #[] 95))
  have hs0 := (Same.alloc (Same.alloc (Same.refl w) (.cells #[.int .i64 k0, .int .i64 m0] 95)) (.cells #[] 95))
  generalize ((w.alloc (.cells #[.int .i64 k0, .int .i64 m0] 95)).alloc (.cells #[] 95)) = w0 at *
  go_loopw [6, 7, 8] (fun v p i wr => ∃ (k : Nat) (bb : Bool) (M : List TEvent), k ≤ L.length ∧ i = .int .i64 k ∧ p = .bool bb ∧ M.length ≤ k + (if bb then 1 else 0) ∧ OwnEvent wr (w.heap.size + 1) v M ∧ BoxAt wr w.heap.size 95 [.int .i64 k0, .int .i64 m0] ∧ Same w wr) (fun _ _ i _ => L.length - (intOf i).toNat)
  case atStart => exact ⟨0, false, [], Nat.zero_le _, rfl, rfl, Nat.le_refl _, hem, h1, hs0⟩
  case round =>
    clear hem h1 hs0
    obtain ⟨k, bb, M, hk, rfl, rfl, hl, hown, hb, hs⟩ := hrel
    have n0 := hs.size
    by_cases hlt : k < L.length
    · obtain ⟨b, off, x, rfl, hc, HX, hbl⟩ := hA.at_ hlt
      obtain ⟨f0, f1⟩ := x
      have d0 := hc 0 _ rfl
      have d1 := hc 1 _ rfl
      simp only [Nat.add_zero] at d0
      have HC := Lib.hid (fun (w' : World) (h : Same w w') => And.intro ((h.cell (p := ⟨b, off + k * 2, none⟩) hbl).trans d0) ((h.cell (p := ⟨b, off + k * 2 + 1, none⟩) hbl).trans d1))
      clear hc HX d0 d1
      obtain ⟨c0, c1⟩ := HC.out _ hs
      have p0 : (0 : Int) ≤ (k : Int) := by omega
      have p1 : (k : Int) < (L.length : Int) := by omega
      have b0 := hb.cell 0 rfl
      have b1 := hb.cell 1 rfl
      have hbn := hb.lt
      cases bb
      · simp only [Bool.false_eq_true, if_false, Nat.add_zero] at hl
        by_cases hm : m0 < f1
        · have dm : decide (m0 < f1) = true := decide_eq_true hm
          go_wp2
          go_quiet (fail)
          have hd := (Same.refl wr).drewN nq
          replace hown := OwnR.same hown hd
          replace hb := hb.same hd
          replace hs := hs.trans hd
          clear c0 c1 b0 b1 hd
          obtain ⟨c0, c1⟩ := HC.out _ hs
          generalize wr.drewN nq = w1 at *
          have b0 := hb.cell 0 rfl
          have b1 := hb.cell 1 rfl
          have hbn := hb.lt
          have n1 := hs.size
          go_wp2_with (at_builtin; first
            | (refine wpList_of rfl fun _ hK => wp_oneEvent _ (.tmp 28) (.tmp 30) rfl (w.heap.size + 1) _ M rfl (OwnR.alloc hown _) w1.heap.size 1 (k0, m0) rfl (cells_new rfl) (by simp; omega) (by simp) (by simp; omega) (fun v' w2 ho1 hup1 hfr => hK _ _ ?_); (have hgr1 : ∀ b, (Value.ownBlock _ = some b) → w.heap.size + 1 ≤ b := fun b hb => (OwnR.zn hown b hb).1); (have hb2 := grown_box hup1 (hb.same ((Same.refl _).alloc _)) (fun e => by have := hgr1 _ e; omega)); (have hs2 := grown_same (hs.alloc _) hup1 (fun b hb => by have := hgr1 b hb; omega)); (have hbn2 := hb2.lt); (have hn2 := hs2.size); (obtain ⟨e0, e1⟩ := HC.out _ hs2))
            | (refine wpList_of rfl fun _ hK => wp_oneEvent _ (.tmp 32) (.tmp 37) rfl (w.heap.size + 1) _ (M ++ [(k0, m0)]) rfl (OwnR.alloc ho1 _) w2.heap.size 1 (f0, f1) rfl (cells_new rfl) (by simp; omega) (by simp) (by simp; omega) (fun v' w9 ho2 hup hfr => hK _ _ ?_)))
          clear hgr1 hup1 hown hb hs
          have hown := ho1
          have hb := hb2
          have hs := hs2
          have hgr : ∀ b, (Value.ownBlock _ = some b) → w.heap.size + 1 ≤ b := fun b hb => (OwnR.zn hown b hb).1
          have hbx := grown_box hup (hb.same ((Same.refl _).alloc _)) (fun e => by have := hgr _ e; omega)
          have hss := grown_same (hs.alloc _) hup (fun b hb => by have := hgr b hb; omega)
          clear hup hfr hgr
          go_wp2
          go_roundw
          case rel => exact ⟨k + 1, true, _, hlt, by go_num, rfl, by simp; omega, ho2, hbx, hss⟩
          case measure => simp [intOf]; omega
        · have dm : decide (m0 < f1) = false := decide_eq_false hm
          go_wp2
          go_quiet (fail)
          have hd := (Same.refl wr).drewN nq
          replace hown := OwnR.same hown hd
          replace hb := hb.same hd
          replace hs := hs.trans hd
          clear c0 c1 b0 b1 hd
          obtain ⟨c0, c1⟩ := HC.out _ hs
          generalize wr.drewN nq = w1 at *
          have b0 := hb.cell 0 rfl
          have b1 := hb.cell 1 rfl
          have hbn := hb.lt
          have n1 := hs.size
          go_wp2_with (at_builtin; refine wpList_of rfl fun _ hK => wp_oneEvent _ (.tmp 32) (.tmp 37) rfl (w.heap.size + 1) _ M rfl (OwnR.alloc hown _) w1.heap.size 1 (f0, f1) rfl (cells_new rfl) (by simp; omega) (by simp) (by simp; omega) (fun v' w9 ho2 hup hfr => hK _ _ ?_))
          have hgr : ∀ b, (Value.ownBlock _ = some b) → w.heap.size + 1 ≤ b := fun b hb => (OwnR.zn hown b hb).1
          have hbx := grown_box hup (hb.same ((Same.refl _).alloc _)) (fun e => by have := hgr _ e; omega)
          have hss := grown_same (hs.alloc _) hup (fun b hb => by have := hgr b hb; omega)
          clear hup hfr hgr
          go_wp2
          go_roundw
          case rel => exact ⟨k + 1, false, _, hlt, by go_num, rfl, by simp; omega, ho2, hbx, hss⟩
          case measure => simp [intOf]; omega
      · simp only [if_true] at hl
        go_wp2
        go_quiet (fail)
        have hd := (Same.refl wr).drewN nq
        replace hown := OwnR.same hown hd
        replace hb := hb.same hd
        replace hs := hs.trans hd
        clear c0 c1 b0 b1 hd
        obtain ⟨c0, c1⟩ := HC.out _ hs
        generalize wr.drewN nq = w1 at *
        have b0 := hb.cell 0 rfl
        have b1 := hb.cell 1 rfl
        have hbn := hb.lt
        have n1 := hs.size
        go_wp2_with (at_builtin; refine wpList_of rfl fun _ hK => wp_oneEvent _ (.tmp 32) (.tmp 37) rfl (w.heap.size + 1) _ M rfl (OwnR.alloc hown _) w1.heap.size 1 (f0, f1) rfl (cells_new rfl) (by simp; omega) (by simp) (by simp; omega) (fun v' w9 ho2 hup hfr => hK _ _ ?_))
        have hgr : ∀ b, (Value.ownBlock _ = some b) → w.heap.size + 1 ≤ b := fun b hb => (OwnR.zn hown b hb).1
        have hbx := grown_box hup (hb.same ((Same.refl _).alloc _)) (fun e => by have := hgr _ e; omega)
        have hss := grown_same (hs.alloc _) hup (fun b hb => by have := hgr b hb; omega)
        clear hup hfr hgr
        go_wp2
        go_roundw
        case rel => exact ⟨k + 1, true, _, hlt, by go_num, rfl, by simp; omega, ho2, hbx, hss⟩
        case measure => simp [intOf]; omega
    · have b0 := hb.cell 0 rfl
      have b1 := hb.cell 1 rfl
      have hbn := hb.lt
      cases bb
      · simp only [Bool.false_eq_true, if_false, Nat.add_zero] at hl
        go_wp2_with (at_builtin; refine wpList_of rfl fun _ hK => wp_oneEvent _ (.tmp 41) (.tmp 43) rfl (w.heap.size + 1) _ M rfl (OwnR.alloc hown _) wr.heap.size 1 (k0, m0) rfl (cells_new rfl) (by simp; omega) (by simp) (by simp; omega) (fun v' w2 ho1 hup1 hfr => hK _ _ ?_); (have hgr1 : ∀ b, (Value.ownBlock _ = some b) → w.heap.size + 1 ≤ b := fun b hb => (OwnR.zn hown b hb).1); (have hs2 := grown_same (hs.alloc _) hup1 (fun b hb => by have := hgr1 b hb; omega)))
        clear hown hb hup1 hfr hgr1
        obtain ⟨N, hN⟩ : ∃ N, N = M ++ [(k0, m0)] := ⟨_, rfl⟩
        rw [← hN] at ho1
        have hNl : N.length ≤ L.length + 1 := by rw [hN]; simp; omega
        clear hN
        refine (sEventsOk_any A c L _ (by omega) (hA.same hs2)).mono ?_
        rintro e w5 ⟨rfl, t5⟩
        have T5 := hs2.trans t5
        replace ho1 := OwnR.same ho1 t5
        clear t5
        cases eventsOk L
        · go_wp2_with (at_builtin; (refine wpList_of rfl fun _ hK => wp_allEvent _ (.tmp 53) (.tmp 54) rfl w.heap.size _ [] rfl (OwnR.rebase (OwnR.empty 95 2 cEvent _ (Nat.le_refl _)) T5.size) A c L rfl (hA.same (T5.alloc _)) hnil (by simp; omega) (by have := T5.size; simp; omega) (fun v' w8 ho8 hup8 hfr8 => hK _ _ ?_); (have hgr8 : Same w w8 := grown_same (T5.alloc _) hup8 (fun b hb => by cases hb; exact T5.size))))
          rw [List.nil_append] at ho8
          obtain ⟨B8, d8, rfl⟩ := OwnR.form ho8
          go_wp2
          go_ret2
          exact ⟨L, B8, d8, false, rfl, Nat.le_succ _, ho8, hgr8⟩
        · obtain ⟨B, d, hv⟩ := OwnR.form ho1
          subst hv
          go_wp2_with fail
          refine (sEventsOk_any B d N _ (by omega) (OwnR.recs cEvent_len ho1)).mono ?_
          rintro e w6 ⟨rfl, t6⟩
          have T6 := T5.trans t6
          replace ho1 := OwnR.same ho1 t6
          clear t6
          cases eventsOk N
          · go_wp2_with (at_builtin; (refine wpList_of rfl fun _ hK => wp_allEvent _ (.tmp 53) (.tmp 54) rfl w.heap.size _ [] rfl (OwnR.rebase (OwnR.empty 95 2 cEvent _ (Nat.le_refl _)) T6.size) A c L rfl (hA.same (T6.alloc _)) hnil (by simp; omega) (by have := T6.size; simp; omega) (fun v' w8 ho8 hup8 hfr8 => hK _ _ ?_); (have hgr8 : Same w w8 := grown_same (T6.alloc _) hup8 (fun b hb => by cases hb; exact T6.size))))
            rw [List.nil_append] at ho8
            obtain ⟨B8, d8, rfl⟩ := OwnR.form ho8
            go_wp2
            go_ret2
            exact ⟨L, B8, d8, false, rfl, Nat.le_succ _, ho8, hgr8⟩
          · go_wp2
            go_ret2
            exact ⟨N, B, d, true, rfl, hNl, OwnR.rebase ho1 (by omega), T6⟩
      · simp only [if_true] at hl
        go_wp2_with fail
        refine (sEventsOk_any A c L _ (by omega) (hA.same hs)).mono ?_
        rintro e w5 ⟨rfl, t5⟩
        have T5 := hs.trans t5
        replace hown := OwnR.same hown t5
        clear t5
        cases eventsOk L
        · go_wp2_with (at_builtin; (refine wpList_of rfl fun _ hK => wp_allEvent _ (.tmp 53) (.tmp 54) rfl w.heap.size _ [] rfl (OwnR.rebase (OwnR.empty 95 2 cEvent _ (Nat.le_refl _)) T5.size) A c L rfl (hA.same (T5.alloc _)) hnil (by simp; omega) (by have := T5.size; simp; omega) (fun v' w8 ho8 hup8 hfr8 => hK _ _ ?_); (have hgr8 : Same w w8 := grown_same (T5.alloc _) hup8 (fun b hb => by cases hb; exact T5.size))))
          rw [List.nil_append] at ho8
          obtain ⟨B8, d8, rfl⟩ := OwnR.form ho8
          go_wp2
          go_ret2
          exact ⟨L, B8, d8, false, rfl, Nat.le_succ _, ho8, hgr8⟩
        · obtain ⟨B, d, hv⟩ := OwnR.form hown
          subst hv
          go_wp2_with fail
          refine (sEventsOk_any B d M _ (by omega) (OwnR.recs cEvent_len hown)).mono ?_
          rintro e w6 ⟨rfl, t6⟩
          have T6 := T5.trans t6
          replace hown := OwnR.same hown t6
          clear t6
          cases eventsOk M
          · go_wp2_with (at_builtin; (refine wpList_of rfl fun _ hK => wp_allEvent _ (.tmp 53) (.tmp 54) rfl w.heap.size _ [] rfl (OwnR.rebase (OwnR.empty 95 2 cEvent _ (Nat.le_refl _)) T6.size) A c L rfl (hA.same (T6.alloc _)) hnil (by simp; omega) (by have := T6.size; simp; omega) (fun v' w8 ho8 hup8 hfr8 => hK _ _ ?_); (have hgr8 : Same w w8 := grown_same (T6.alloc _) hup8 (fun b hb => by cases hb; exact T6.size))))
            rw [List.nil_append] at ho8
            obtain ⟨B8, d8, rfl⟩ := OwnR.form ho8
            go_wp2
            go_ret2
            exact ⟨L, B8, d8, false, rfl, Nat.le_succ _, ho8, hgr8⟩
          · go_wp2
            go_ret2
            exact ⟨M, B, d, true, rfl, by omega, OwnR.rebase hown (by omega), T6⟩

theorem OwnR.nil_c {T : Type} {e : TypeId} {s : Nat} {cells : T → List Value} {w : World} {base n c : Nat} {A : Option Addr} {L : List T} (h : OwnR e s cells w base (.slice A n c) L) : A = none → c = 0 := fun hA => by
  subst hA
  rcases h.2 with ⟨hv, _⟩ | ⟨g', cap, cur, hv, _⟩
  · injection hv
  · injection hv with hv _ _; cases hv
set_option maxHeartbeats 2000000 in
theorem l18Events_any (g : Nat) (w : World) (hc : Cur w g) : Calls Tryz.prog 158 #[.pointer (some ⟨g, 0, none⟩)] w (DrawnR 95 2 cEvent g (fun L : List TEvent => L.length ≤ 9) w) := by
  have hg := hc.lt
  have he := OwnR.empty 95 2 cEvent w (Nat.le_refl _)
  go_enter Tryz.func158, Tryz.ntmps158
  go_wp2_with fail
  refine (l01Below_any g 20 _ (by omega) (by omega) (hc.same ((Same.refl _).alloc _))).mono ?_
  rintro e w1 ⟨y0, rfl, a0, a1, hc1, hu1⟩
  have hown := OwnR.turn he hu1 hg
  have hw := hu1.size
  simp only [World.size_alloc] at hw
  have U1 := (((Same.refl w).alloc (.cells #[] 95)).upd g (g + 1)).trans hu1
  clear hu1 he
  go_wp2
  go_loopw [3, 4, 5] (fun o m i wr => ∃ (k : Nat) (y : Int) (L : List TEvent), k ≤ 8 ∧ i = .int .i64 k ∧ m = .int .i64 y ∧ L.length ≤ k ∧ 0 ≤ y ∧ y ≤ 19 + 20 * (k : Int) ∧ OwnEvent wr w.heap.size o L ∧ Cur wr g ∧ Upd g (g + 1) w wr ∧ w.heap.size ≤ wr.heap.size) (fun _ _ i _ => 9 - (intOf i).toNat)
  case atStart => exact ⟨0, y0, [], by omega, rfl, rfl, Nat.le_refl _, a0, by omega, hown, hc1, U1, by omega⟩
  case round =>
    clear hown hc1 U1
    obtain ⟨k, y, L, hk, rfl, rfl, hl, hy0, hy1, hown, hc1, U1, hw1⟩ := hrel
    obtain ⟨A, c, hv⟩ := OwnR.form hown
    subst hv
    go_wp2_with fail
    refine (l01Below_any g 9 _ (by omega) (by omega) hc1).mono ?_
    rintro e w2 ⟨q, rfl, q0, q1, hc2, hu2⟩
    replace hown := OwnR.turn hown hu2 hg
    have U2 := U1.trans hu2
    have hw2 := Nat.le_trans hw1 hu2.size
    clear hu2 U1 hc1
    by_cases hlt : (k : Int) < q
    · go_wp2_with fail
      refine (l01Below_any g 4 _ (by omega) (by omega) hc2).mono ?_
      rintro e w3 ⟨x, rfl, x0, x1, hc3, hu3⟩
      replace hown := OwnR.turn hown hu3 hg
      have U3 := U2.trans hu3
      have hw3 := Nat.le_trans hw2 hu3.size
      clear hu3 U2 hc2
      have kx : IntKind.i64.wrap (1 + x) = 1 + x := IntWalk.i64_in _ (by omega)
      by_cases hx : x = 3
      · subst hx
        go_wp2_with fail
        refine (l01Once_any g 3 _ (by omega) (by omega) hc3).mono ?_
        rintro e w6 ⟨b6, rfl, hc6, hu6⟩
        replace hown := OwnR.turn hown hu6 hg
        have U6 := U3.trans hu6
        have hw6 := Nat.le_trans hw3 hu6.size
        clear hu6 U3 hc3 kx
        cases b6
        · go_wp2_with fail
          refine (addEvent_any A c L 1 y _ (by omega) (OwnR.nil_c hown) (OwnR.recs cEvent_len hown)).mono ?_
          rintro e w4 ⟨M, B, d, bb, rfl, hlM, hown4, hs4⟩
          have U7 := U6.same hs4
          have hc4 := hc6.same hs4
          have hw4 := Nat.le_trans hw6 hs4.size
          replace hown4 := OwnR.rebase hown4 hw6
          cases bb
          · go_wp2
            go_roundw
            case rel => exact ⟨k + 1, y, L, by omega, by go_num, rfl, by omega, by omega, by omega, OwnR.same hown hs4, hc4, U7, hw4⟩
            case measure => simp [intOf]; omega
          · clear hown
            go_wp2_with fail
            refine (l01Below_any g 20 _ (by omega) (by omega) hc4).mono ?_
            rintro e w5 ⟨u, rfl, u0, u1, hc5, hu5⟩
            replace hown4 := OwnR.turn hown4 hu5 hg
            have U5 := U7.trans hu5
            have hw5 := Nat.le_trans hw4 hu5.size
            clear hu5
            go_wp2
            go_roundw
            case rel => exact ⟨k + 1, _, M, by omega, by go_num, rfl, by omega, by omega, by omega, hown4, hc5, U5, hw5⟩
            case measure => simp [intOf]; omega
        · go_wp2_with fail
          refine (addEvent_any A c L 4 y _ (by omega) (OwnR.nil_c hown) (OwnR.recs cEvent_len hown)).mono ?_
          rintro e w4 ⟨M, B, d, bb, rfl, hlM, hown4, hs4⟩
          have U7 := U6.same hs4
          have hc4 := hc6.same hs4
          have hw4 := Nat.le_trans hw6 hs4.size
          replace hown4 := OwnR.rebase hown4 hw6
          cases bb
          · go_wp2
            go_roundw
            case rel => exact ⟨k + 1, y, L, by omega, by go_num, rfl, by omega, by omega, by omega, OwnR.same hown hs4, hc4, U7, hw4⟩
            case measure => simp [intOf]; omega
          · clear hown
            go_wp2_with fail
            refine (l01Below_any g 20 _ (by omega) (by omega) hc4).mono ?_
            rintro e w5 ⟨u, rfl, u0, u1, hc5, hu5⟩
            replace hown4 := OwnR.turn hown4 hu5 hg
            have U5 := U7.trans hu5
            have hw5 := Nat.le_trans hw4 hu5.size
            clear hu5
            go_wp2
            go_roundw
            case rel => exact ⟨k + 1, _, M, by omega, by go_num, rfl, by omega, by omega, by omega, hown4, hc5, U5, hw5⟩
            case measure => simp [intOf]; omega
      · have bx : ((1 + x) == 4) = false := by rw [beq_eq_false_iff_ne]; omega
        go_wp2_with fail
        refine (addEvent_any A c L (1 + x) y _ (by omega) (OwnR.nil_c hown) (OwnR.recs cEvent_len hown)).mono ?_
        rintro e w4 ⟨M, B, d, bb, rfl, hlM, hown4, hs4⟩
        have U7 := U3.same hs4
        have hc4 := hc3.same hs4
        have hw4 := Nat.le_trans hw3 hs4.size
        replace hown4 := OwnR.rebase hown4 hw3
        cases bb
        · go_wp2
          go_roundw
          case rel => exact ⟨k + 1, y, L, by omega, by go_num, rfl, by omega, by omega, by omega, OwnR.same hown hs4, hc4, U7, hw4⟩
          case measure => simp [intOf]; omega
        · clear hown
          go_wp2_with fail
          refine (l01Below_any g 20 _ (by omega) (by omega) hc4).mono ?_
          rintro e w5 ⟨u, rfl, u0, u1, hc5, hu5⟩
          replace hown4 := OwnR.turn hown4 hu5 hg
          have U5 := U7.trans hu5
          have hw5 := Nat.le_trans hw4 hu5.size
          clear hu5
          go_wp2
          go_roundw
          case rel => exact ⟨k + 1, _, M, by omega, by go_num, rfl, by omega, by omega, by omega, hown4, hc5, U5, hw5⟩
          case measure => simp [intOf]; omega
    · go_wp2
      go_ret
      exact DrawnR.of hown (by omega) hc2 U2
end Go.Proofs.YtjfmknhnplefnaaGreat
end

section
/-
  Members, drawn.
-/
namespace Go.Proofs.YtjfmknhnplefnaaGreat
open Go.RowKit
set_option linter.unusedVariables false
set_option linter.unusedSimpArgs false

/-- A literal row of two events. -/
theorem ownEvent2 (a : World) (x0 x1 y0 y1 : Int) {base : Nat} (hb : base ≤ a.heap.size) :
    OwnEvent (a.alloc (.cells #[.int .i64 x0, .int .i64 x1, .int .i64 y0, .int .i64 y1] 95)) base (.slice (some ⟨a.heap.size, 0, none⟩) 2 2) [(x0, x1), (y0, y1)] :=
  World.ownsRow_lit _ _ 2 hb (by unfold maxLen; omega) (by simp)

/-- A member handed back, drawn. -/
def DrawnMember (g : Nat) (w : World) (e : Ending) (w' : World) : Prop :=
  ∃ (x y : Int) (S : List TSpell) (A : Option Addr) (c : Nat) (E : List TEvent) (B : Option Addr) (d : Nat), e = .returned (.agg #[.int .i64 x, .int .i64 y, .slice A S.length c, .slice B E.length d]) ∧ S.length ≤ 10 ∧ E.length ≤ 10 ∧
    OwnSpell w' w.heap.size (.slice A S.length c) S ∧ OwnEvent w' w.heap.size (.slice B E.length d) E ∧ Cur w' g ∧ Upd g (g + 1) w w'

set_option maxRecDepth 100000 in
set_option maxHeartbeats 1200000 in
theorem l22Member_any (g : Nat) (w : World) (hc : Cur w g) : Calls Tryz.prog 101 #[.pointer (some ⟨g, 0, none⟩)] w (DrawnMember g w) := by
  have hg := hc.lt
  go_enter Tryz.func101, Tryz.ntmps101
  go_wp2_with fail
  have h1 : BoxAt (w.alloc (.cells #[.int .i64 0, .int .i64 0, .slice none 0 0, .slice none 0 0] 36)) (w.heap.size) 36 [.int .i64 0, .int .i64 0, .slice none 0 0, .slice none 0 0] := by simpa using (BoxAt.new w 36 [.int .i64 0, .int .i64 0, .slice none 0 0, .slice none 0 0])
  have hs0 := (Same.alloc (Same.refl w) (.cells #[.int .i64 0, .int .i64 0, .slice none 0 0, .slice none 0 0] 36))
  generalize (w.alloc (.cells #[.int .i64 0, .int .i64 0, .slice none 0 0, .slice none 0 0] 36)) = w0 at *
  have l0 := h1.lt
  refine (l01Below_any g 4 _ (by omega) (by omega) (hc.same hs0)).mono ?_
  rintro e w1 ⟨x, rfl, x0, x1, hc1, hu1⟩
  replace h1 := h1.upd hu1 (.inr (by omega))
  have U1 := (hs0.upd g (g + 1)).trans hu1
  have n1 := h1.lt
  clear hu1 hs0
  go_wp2_with fail
  refine (l11Spells_any g _ hc1).mono ?_
  rintro e w2 ⟨S, A, c, rfl, hS, oS, hc2, hu2⟩
  replace h1 := h1.upd hu2 (.inr (by omega))
  have U2 := U1.trans hu2
  have n2 := hu2.size
  clear hu2 hc1 U1
  have zS := OwnR.zn oS
  have h3 := BoxAt.new w2 36 [.int .i64 x, .int .i64 5, .slice A S.length c, .slice none 0 0]
  have al := (Same.refl w2).alloc (.cells #[.int .i64 x, .int .i64 5, .slice A S.length c, .slice none 0 0] 36)
  replace h1 := h1.same al
  replace oS := OwnR.same oS al
  replace hc2 := hc2.same al
  have U3 := U2.same al
  clear al U2
  have n3 := h3.lt
  simp only [World.size_alloc] at n3
  go_wp2_with fail
  generalize w2.alloc (.cells #[.int .i64 x, .int .i64 5, .slice A S.length c, .slice none 0 0] 36) = w3 at *
  refine (l01Below_any g 20 _ (by omega) (by omega) hc2).mono ?_
  rintro e w4 ⟨u, rfl, u0, u1, hc4, hu4⟩
  replace h1 := h1.upd hu4 (.inr (by omega))
  replace h3 := h3.upd hu4 (.inr (by omega))
  replace oS := OwnR.turn oS hu4 (by omega)
  have U4 := U3.trans hu4
  have n4 := h3.lt
  clear hu4 hc2 U3
  have ku : IntKind.i64.wrap (30 + u) = 30 + u := IntWalk.i64_in _ (by omega)
  have f3 := h3.frozen 3
  have c3 := h3.cell 3 rfl
  have f3' := (h3.alloc (.cells #[.int .i64 1, .int .i64 5, .int .i64 3, .int .i64 (30 + u)] 95)).frozen 3
  have c3' := (h3.alloc (.cells #[.int .i64 1, .int .i64 5, .int .i64 3, .int .i64 (30 + u)] 95)).cell 3 rfl
  replace h1 := h1.other (k := w2.heap.size) (j := 3) (.slice (some ⟨w4.heap.size, 0, none⟩) 2 2) (by omega)
  replace h3 := h3.set 3 (.slice (some ⟨w4.heap.size, 0, none⟩) 2 2)
  replace oS := OwnR.upd oS (upd_setCell _ w2.heap.size 3 (.slice (some ⟨w4.heap.size, 0, none⟩) 2 2)) zS (.inl (Nat.le_refl _))
  replace hc4 := hc4.upd (upd_setCell _ w2.heap.size 3 (.slice (some ⟨w4.heap.size, 0, none⟩) 2 2)) (by omega)
  replace U4 := U4.set (g := w2.heap.size) (j := 3) (by omega) (.slice (some ⟨w4.heap.size, 0, none⟩) 2 2)
  have oE := ownEvent2 (w4.setCell ⟨w2.heap.size, 3, none⟩ (.slice (some ⟨w4.heap.size, 0, none⟩) 2 2)) 1 5 3 (30 + u) (Nat.le_refl _)
  simp only [World.size_setCell] at oE
  have al := (Same.refl (w4.setCell ⟨w2.heap.size, 3, none⟩ (.slice (some ⟨w4.heap.size, 0, none⟩) 2 2))).alloc (.cells #[.int .i64 1, .int .i64 5, .int .i64 3, .int .i64 (30 + u)] 95)
  replace h1 := h1.same al
  replace h3 := h3.same al
  replace oS := OwnR.same oS al
  replace hc4 := hc4.same al
  replace U4 := U4.same al
  clear al
  have n5 := h3.lt
  have n45 := (show w4.heap.size < ((w4.setCell ⟨w2.heap.size, 3, none⟩ (.slice (some ⟨w4.heap.size, 0, none⟩) 2 2)).alloc (.cells #[.int .i64 1, .int .i64 5, .int .i64 3, .int .i64 (30 + u)] 95)).heap.size by simp)
  go_wp2_with fail
  clear f3 c3 f3' c3'
  generalize (w4.setCell ⟨w2.heap.size, 3, none⟩ (.slice (some ⟨w4.heap.size, 0, none⟩) 2 2)).alloc (.cells #[.int .i64 1, .int .i64 5, .int .i64 3, .int .i64 (30 + u)] 95) = w5 at *
  refine (l01Below_any g 6 _ (by omega) (by omega) hc4).mono ?_
  rintro e w6 ⟨v, rfl, v0, v1, hc6, hu6⟩
  replace h1 := h1.upd hu6 (.inr (by omega))
  replace h3 := h3.upd hu6 (.inr (by omega))
  replace oS := OwnR.turn oS hu6 (by omega)
  replace oE := OwnR.turn oE hu6 (by omega)
  have U6 := U4.trans hu6
  have n6 := h3.lt
  have m6 := hu6.size
  clear hu6 hc4 U4
  by_cases hv0 : v = 0
  · subst hv0
    obtain ⟨E, hE⟩ : ∃ E : List TEvent, E = [(1, 5), (3, 30 + u)] := ⟨_, rfl⟩
    have hEl : E.length ≤ 2 := by rw [hE]; exact Nat.le_refl _
    rw [← hE] at oE
    clear hE
    have hzE := OwnR.zn oE
    have b3 := h3.cell 3 rfl
    have hdr := (Same.refl w6).drew
    have HB := Lib.hid (fun (u : World) (h : Cur u g) => l01Below_any g 30 u (by omega) (by omega) h)
    go_wp2
    go_region_law
      (first
        | (refine step_of (by rfl) ?_; go_simp; go_at_call 46; (have h7 := HB.out _ (hc6.same hdr)); (with_reducible refine Calls.mono h7 ?_); clear h7; rintro e w7 ⟨y, rfl, y0, y1, hc7, hu7⟩; dsimp only; (have g1 := (h1.same hdr).upd hu7 (.inr (by omega))); (have g3 := (h3.same hdr).upd hu7 (.inr (by omega))); (have pS := OwnR.turn (OwnR.same oS hdr) hu7 (by omega)); (have pE := OwnR.turn (OwnR.same oE hdr) hu7 (by omega)); (have U7 := (U6.same hdr).trans hu7); (have n7 := g3.lt); (have m7 : w6.heap.size ≤ w7.heap.size := hu7.size); (have ky : IntKind.i64.wrap (60 + y) = 60 + y := IntWalk.i64_in _ (by omega)); (have d3 := g3.cell 3 rfl); (have al := (Same.refl w7).alloc (.cells #[.int .i64 4, .int .i64 (60 + y)] 95)); (have e3 := (g3.same al).cell 3 rfl))
        | (refine step_oneEvent _ (by rfl) (.tmp 21) (.tmp 26) (by rfl) w4.heap.size _ E (by rfl) (OwnR.same pE al) w7.heap.size 1 (4, 60 + y) (by rfl) (by intro j u hu; exact cells_new rfl j u hu) (by omega) (by simp) (by simp; omega) ?_; intro v' w8 ho8 hup hfr; (obtain ⟨N, hN⟩ : ∃ N, N = E ++ [(4, 60 + y)] := ⟨_, rfl⟩); (rw [← hN] at ho8); (have hNl : N.length ≤ 10 := by rw [hN]; simp; omega); (clear hN); (obtain ⟨B8, d8, rfl⟩ := OwnR.form ho8); (have k1 := grown_box hup (g1.same al) (fun e => by have := (hzE _ e).1; omega)); (have k3 := grown_box hup (g3.same al) (fun e => by have := (hzE _ e).1; omega)); (have q3 := k3.frozen 3); (have q4 := k3.cell 3 rfl)))
    all_goals
      have h1 := k1.other (k := w2.heap.size) (j := 3) (.slice B8 N.length d8) (by omega)
      have h3 := k3.set 3 (.slice B8 N.length d8)
      have sp : Sep (.slice (some ⟨w4.heap.size, 0, none⟩) 2 2) (.slice A S.length c) := fun g e1 e2 => by have := (hzE g e1).1; have := (zS g e2).2; omega
      have oS := OwnR.upd (grown_owns hup (OwnR.same pS al) sp) (upd_setCell _ w2.heap.size 3 (.slice B8 N.length d8)) zS (.inl (Nat.le_refl _))
      have oE := OwnR.put ho8 w2.heap.size 3 (.slice B8 N.length d8) (by omega)
      have hcz := ((hc7.same al).grow hup (fun b e => by have := (hzE _ e).1; omega)).upd (upd_setCell _ w2.heap.size 3 (.slice B8 N.length d8)) (by omega)
      have Uz := ((U7.same al).grow hup (fun b e => by have := (hzE _ e).1; omega)).set (g := w2.heap.size) (j := 3) (by omega) (.slice B8 N.length d8)
      clear k1 k3 q3 q4 g1 g3 pS pE al hup hfr d3 e3 b3 HB hdr hc7 hu7 U7 hzE sp ho8 hEl ky
      generalize w8.setCell ⟨w2.heap.size, 3, none⟩ (.slice B8 N.length d8) = w9 at *
      have b0 := h3.cell 0 rfl
      have b1 := h3.cell 1 rfl
      have b2 := h3.cell 2 rfl
      have b3 := h3.cell 3 rfl
      have f0 := h1.frozen 0
      have f1 := h1.frozen 1
      have f2 := h1.frozen 2
      have f3 := h1.frozen 3
      have c0 := h1.cell 0 rfl
      have c1 := h1.cell 1 rfl
      have c2 := h1.cell 2 rfl
      have c3 := h1.cell 3 rfl
      have K4 := (((h1.set 0 (.int .i64 x)).set 1 (.int .i64 5)).set 2 (.slice A S.length c)).set 3 (.slice B8 N.length d8)
      have y0 := K4.cell 0 rfl
      have y1 := K4.cell 1 rfl
      have y2 := K4.cell 2 rfl
      have y3 := K4.cell 3 rfl
      have pS := OwnR.put (OwnR.put (OwnR.put (OwnR.put oS w.heap.size 0 (.int .i64 x) (by omega)) w.heap.size 1 (.int .i64 5) (by omega)) w.heap.size 2 (.slice A S.length c) (by omega)) w.heap.size 3 (.slice B8 N.length d8) (by omega)
      have pE := OwnR.put (OwnR.put (OwnR.put (OwnR.put oE w.heap.size 0 (.int .i64 x) (by omega)) w.heap.size 1 (.int .i64 5) (by omega)) w.heap.size 2 (.slice A S.length c) (by omega)) w.heap.size 3 (.slice B8 N.length d8) (by omega)
      have pc := (((hcz.upd (upd_setCell _ w.heap.size 0 (.int .i64 x)) hg).upd (upd_setCell _ w.heap.size 1 (.int .i64 5)) hg).upd (upd_setCell _ w.heap.size 2 (.slice A S.length c)) hg).upd (upd_setCell _ w.heap.size 3 (.slice B8 N.length d8)) hg
      have pU := (((Uz.set (j := 0) (Nat.le_refl _) (.int .i64 x)).set (j := 1) (Nat.le_refl _) (.int .i64 5)).set (j := 2) (Nat.le_refl _) (.slice A S.length c)).set (j := 3) (Nat.le_refl _) (.slice B8 N.length d8)
      go_wp2
      exact bodyPost_ret (v := .agg #[.int .i64 x, .int .i64 5, .slice A S.length c, .slice B8 N.length d8]) (by simp [results, Tryz.results101, go_sem, y0, y1, y2, y3]) rfl ⟨x, 5, S, A, c, N, B8, _, rfl, by omega, hNl, OwnR.rebase pS (by omega), OwnR.rebase pE (by omega), pc, pU⟩
  · by_cases hv1 : v = 1
    · subst hv1
      go_wp2_with fail
      refine (l18Events_any g _ hc6).mono ?_
      rintro e w7 ⟨N, B8, d8, rfl, hNl, oE', hc7, hu7⟩
      replace h1 := h1.upd hu7 (.inr (by omega))
      replace h3 := h3.upd hu7 (.inr (by omega))
      replace oS := OwnR.turn oS hu7 (by omega)
      have U7 := U6.trans hu7
      have n7 := h3.lt
      clear hu7 hc6 U6 oE
      have p3 := h3.frozen 3
      have q3 := h3.cell 3 rfl
      replace h1 := h1.other (k := w2.heap.size) (j := 3) (.slice B8 N.length d8) (by omega)
      replace h3 := h3.set 3 (.slice B8 N.length d8)
      replace oS := OwnR.upd oS (upd_setCell _ w2.heap.size 3 (.slice B8 N.length d8)) zS (.inl (Nat.le_refl _))
      have oE := OwnR.put oE' w2.heap.size 3 (.slice B8 N.length d8) (by omega)
      have hcz := hc7.upd (upd_setCell _ w2.heap.size 3 (.slice B8 N.length d8)) (by omega)
      have Uz := U7.set (g := w2.heap.size) (j := 3) (by omega) (.slice B8 N.length d8)
      have b0 := h3.cell 0 rfl
      have b1 := h3.cell 1 rfl
      have b2 := h3.cell 2 rfl
      have b3 := h3.cell 3 rfl
      have f0 := h1.frozen 0
      have f1 := h1.frozen 1
      have f2 := h1.frozen 2
      have f3 := h1.frozen 3
      have c0 := h1.cell 0 rfl
      have c1 := h1.cell 1 rfl
      have c2 := h1.cell 2 rfl
      have c3 := h1.cell 3 rfl
      have K4 := (((h1.set 0 (.int .i64 x)).set 1 (.int .i64 5)).set 2 (.slice A S.length c)).set 3 (.slice B8 N.length d8)
      have y0 := K4.cell 0 rfl
      have y1 := K4.cell 1 rfl
      have y2 := K4.cell 2 rfl
      have y3 := K4.cell 3 rfl
      have pS := OwnR.put (OwnR.put (OwnR.put (OwnR.put oS w.heap.size 0 (.int .i64 x) (by omega)) w.heap.size 1 (.int .i64 5) (by omega)) w.heap.size 2 (.slice A S.length c) (by omega)) w.heap.size 3 (.slice B8 N.length d8) (by omega)
      have pE := OwnR.put (OwnR.put (OwnR.put (OwnR.put oE w.heap.size 0 (.int .i64 x) (by omega)) w.heap.size 1 (.int .i64 5) (by omega)) w.heap.size 2 (.slice A S.length c) (by omega)) w.heap.size 3 (.slice B8 N.length d8) (by omega)
      have pc := (((hcz.upd (upd_setCell _ w.heap.size 0 (.int .i64 x)) hg).upd (upd_setCell _ w.heap.size 1 (.int .i64 5)) hg).upd (upd_setCell _ w.heap.size 2 (.slice A S.length c)) hg).upd (upd_setCell _ w.heap.size 3 (.slice B8 N.length d8)) hg
      have pU := (((Uz.set (j := 0) (Nat.le_refl _) (.int .i64 x)).set (j := 1) (Nat.le_refl _) (.int .i64 5)).set (j := 2) (Nat.le_refl _) (.slice A S.length c)).set (j := 3) (Nat.le_refl _) (.slice B8 N.length d8)
      go_wp2
      exact bodyPost_ret (v := .agg #[.int .i64 x, .int .i64 5, .slice A S.length c, .slice B8 N.length d8]) (by simp [results, Tryz.results101, go_sem, y0, y1, y2, y3]) rfl ⟨x, 5, S, A, c, N, B8, _, rfl, by omega, by omega, OwnR.rebase pS (by omega), OwnR.rebase pE (by omega), pc, pU⟩
    · have a0 : (v == 0) = false := by rw [beq_eq_false_iff_ne]; exact hv0
      have a1 : (v == 1) = false := by rw [beq_eq_false_iff_ne]; exact hv1
      have hcz := hc6
      have Uz := U6
      have b0 := h3.cell 0 rfl
      have b1 := h3.cell 1 rfl
      have b2 := h3.cell 2 rfl
      have b3 := h3.cell 3 rfl
      have f0 := h1.frozen 0
      have f1 := h1.frozen 1
      have f2 := h1.frozen 2
      have f3 := h1.frozen 3
      have c0 := h1.cell 0 rfl
      have c1 := h1.cell 1 rfl
      have c2 := h1.cell 2 rfl
      have c3 := h1.cell 3 rfl
      have K4 := (((h1.set 0 (.int .i64 x)).set 1 (.int .i64 5)).set 2 (.slice A S.length c)).set 3 (.slice (some ⟨w4.heap.size, 0, none⟩) 2 2)
      have y0 := K4.cell 0 rfl
      have y1 := K4.cell 1 rfl
      have y2 := K4.cell 2 rfl
      have y3 := K4.cell 3 rfl
      have pS := OwnR.put (OwnR.put (OwnR.put (OwnR.put oS w.heap.size 0 (.int .i64 x) (by omega)) w.heap.size 1 (.int .i64 5) (by omega)) w.heap.size 2 (.slice A S.length c) (by omega)) w.heap.size 3 (.slice (some ⟨w4.heap.size, 0, none⟩) 2 2) (by omega)
      have pE := OwnR.put (OwnR.put (OwnR.put (OwnR.put oE w.heap.size 0 (.int .i64 x) (by omega)) w.heap.size 1 (.int .i64 5) (by omega)) w.heap.size 2 (.slice A S.length c) (by omega)) w.heap.size 3 (.slice (some ⟨w4.heap.size, 0, none⟩) 2 2) (by omega)
      have pc := (((hcz.upd (upd_setCell _ w.heap.size 0 (.int .i64 x)) hg).upd (upd_setCell _ w.heap.size 1 (.int .i64 5)) hg).upd (upd_setCell _ w.heap.size 2 (.slice A S.length c)) hg).upd (upd_setCell _ w.heap.size 3 (.slice (some ⟨w4.heap.size, 0, none⟩) 2 2)) hg
      have pU := (((Uz.set (j := 0) (Nat.le_refl _) (.int .i64 x)).set (j := 1) (Nat.le_refl _) (.int .i64 5)).set (j := 2) (Nat.le_refl _) (.slice A S.length c)).set (j := 3) (Nat.le_refl _) (.slice (some ⟨w4.heap.size, 0, none⟩) 2 2)
      go_wp2
      exact bodyPost_ret (v := .agg #[.int .i64 x, .int .i64 5, .slice A S.length c, .slice (some ⟨w4.heap.size, 0, none⟩) 2 2]) (by simp [results, Tryz.results101, go_sem, y0, y1, y2, y3]) rfl ⟨x, 5, S, A, c, [(1, 5), (3, 30 + u)], some ⟨w4.heap.size, 0, none⟩, _, rfl, by omega, by simp, OwnR.rebase pS (by omega), OwnR.rebase pE (by omega), pc, pU⟩
end Go.Proofs.YtjfmknhnplefnaaGreat
end

section
/-
  Points of an index, drawn.
-/
namespace Go.Proofs.YtjfmknhnplefnaaGreat
open Go.RowKit
set_option linter.unusedVariables false
set_option linter.unusedSimpArgs false

set_option maxRecDepth 100000 in
set_option maxHeartbeats 2000000 in
theorem l07Series_any (g : Nat) (w : World) (hc : Cur w g) : Calls Tryz.prog 100 #[.pointer (some ⟨g, 0, none⟩)] w fun e w' =>
    ∃ (L : List TPoint) (A : Option Addr) (c : Nat), e = .returned (.agg #[.slice A L.length c]) ∧ L.length ≤ 10 ∧ OwnPoint w' w.heap.size (.slice A L.length c) L ∧ Cur w' g ∧ Upd g (g + 1) w w' := by
  have hg := hc.lt
  go_enter Tryz.func100, Tryz.ntmps100
  go_wp2_with fail
  have h1 : BoxAt ((w.alloc (.cells #[.slice none 0 0] 32)).alloc (.cells #[.slice none 0 0] 32)) (w.heap.size) 32 [.slice none 0 0] := by simpa using (BoxAt.alloc (BoxAt.new w 32 [.slice none 0 0]) (.cells #[.slice none 0 0] 32))
  have h2 : BoxAt ((w.alloc (.cells #[.slice none 0 0] 32)).alloc (.cells #[.slice none 0 0] 32)) (w.heap.size + 1) 32 [.slice none 0 0] := by simpa using (BoxAt.new (w.alloc (.cells #[.slice none 0 0] 32)) 32 [.slice none 0 0])
  have hs0 := (Same.alloc (Same.alloc (Same.refl w) (.cells #[.slice none 0 0] 32)) (.cells #[.slice none 0 0] 32))
  generalize ((w.alloc (.cells #[.slice none 0 0] 32)).alloc (.cells #[.slice none 0 0] 32)) = w0 at *
  have n0 := hs0.size
  have nn := h2.lt
  have U1 := hs0.upd g (g + 1)
  go_wp2
  go_loopw [4, 5] (fun t4 t5 wr => ∃ (k : Nat) (y : Int) (A : Option Addr) (c : Nat) (L : List TPoint), k ≤ 9 ∧ t4 = .int .i64 y ∧ 0 ≤ y ∧ y ≤ 11 * (k : Int) ∧ t5 = .int .i64 k ∧ DrSt 150 32 3 cPoint w wr g (w.heap.size + 1) (w.heap.size + 1 + 1) k A c L ∧ BoxAt wr w.heap.size 32 [.slice none 0 0] ∧ w0.heap.size ≤ wr.heap.size) (fun _ t5 _ => 10 - (intOf t5).toNat)
  case atStart => exact ⟨0, 0, none, 0, [], by omega, rfl, by omega, by omega, rfl, ⟨Nat.le_refl _, h2, OwnR.nil _ _ _ _ _, hc.same hs0, U1⟩, h1, Nat.le_refl _⟩
  case round =>
    obtain ⟨k, y, A, c, L, hk, rfl, hy0, hy1, rfl, st, hb, nw⟩ := hrel
    clear h1 h2
    go_wp2_with fail
    refine (l01Below_any g 10 _ (by omega) (by omega) st.cur).mono ?_
    rintro e w2 ⟨x, rfl, x0, x1, hc2, hu2⟩
    replace st := st.draw hu2 hc2 (by omega) (by omega)
    replace hb := hb.upd hu2 (.inr (by omega))
    replace nw := Nat.le_trans nw hu2.size
    clear hc2 hu2
    by_cases hlt : (k : Int) < x
    · go_wp2_with fail
      refine (l01Below_any g 12 _ (by omega) (by omega) st.cur).mono ?_
      rintro e w3 ⟨p, rfl, p0, p1, hc3, hu3⟩
      replace st := st.draw hu3 hc3 (by omega) (by omega)
      replace hb := hb.upd hu3 (.inr (by omega))
      replace nw := Nat.le_trans nw hu3.size
      clear hc3 hu3
      have ky : IntKind.i64.wrap (y + p) = y + p := IntWalk.i64_in _ (by omega)
      have ky1 : IntKind.i64.wrap (y + p + 1) = y + p + 1 := IntWalk.i64_in _ (by omega)
      have HB1 := Lib.hid (fun (u : World) (h : Cur u g) => l01Below_any g (y + p + 1) u (by omega) (by omega) h)
      have HB2 := Lib.hid (fun (u : World) (h : Cur u g) => l01Below_any g 4000 u (by omega) (by omega) h)
      have b0 := st.box.cell 0 rfl
      have st1 := st.same (Same.refl _).drew
      have hb1 := hb.same (Same.refl _).drew
      have nd : w0.heap.size ≤ w3.drew.heap.size := nw
      go_wp2
      go_region_law
        (first
          | (refine step_of (by rfl) ?_; go_simp; go_at_call 46; have h4 := HB1.out _ st1.cur; (with_reducible refine Calls.mono h4 ?_); clear h4; rintro e w4 ⟨q1, rfl, q10, q11, hc4, hu4⟩; dsimp only; (have st2 := st1.draw hu4 hc4 (by omega) (by omega)); (have hb2 := hb1.upd hu4 (.inr (by omega))); (have b2 := st2.box.cell 0 rfl); (have nw2 := Nat.le_trans nd hu4.size))
          | (refine step_of (by rfl) ?_; go_simp; go_at_call 46; have h6 := HB2.out _ st2.cur; (with_reducible refine Calls.mono h6 ?_); clear h6; rintro e w6 ⟨q2, rfl, q20, q21, hc6, hu6⟩; dsimp only; (have st6 := st2.draw hu6 hc6 (by omega) (by omega)); (have hb6 := hb2.upd hu6 (.inr (by omega))); (have b6 := st6.box.cell 0 rfl); (have nw6 := Nat.le_trans nw2 hu6.size); (have kz : IntKind.i64.wrap (9000 + q2) = 9000 + q2 := IntWalk.i64_in _ (by omega)); (have ha := (Same.refl w6).alloc (.cells #[.int .i64 q1, .int .i64 (y + p), .int .i64 (9000 + q2)] 150)); (have st3 := st6.same ha); (have b3 := st3.box.cell 0 rfl); (have hl3 := st3.len); (have hn4 := st6.box.lt))
          | (refine step_onePoint _ (by rfl) (.tmp 18) (.tmp 28) (by rfl) (w.heap.size + 1 + 1) _ L (by rfl) st3.own w6.heap.size 1 (q1, y + p, 9000 + q2) (by rfl) (by intro j u hu; exact cells_new rfl j u hu) (by omega) (by simp) (by simp; omega) ?_; intro v' w5 ho5 hup hfr; (obtain ⟨A5, c5, rfl⟩ := OwnR.form ho5); (have hbf := (grown_box hup st3.box (fun e => by have := (OwnR.zn st3.own _ e).1; omega)).frozen 0); (have hbc := (grown_box hup st3.box (fun e => by have := (OwnR.zn st3.own _ e).1; omega)).cell 0 rfl)))
      all_goals
        have hz := OwnR.zn st3.own
        have st4 := st3.push ho5 rfl hup (by omega) (by omega) (by omega) (by omega) (by simp; omega)
        have hb4 := (grown_box hup (hb6.same ha) (fun e => by have := (hz _ e).1; omega)).other (k := w.heap.size + 1) (j := 0) (.slice A5 (L ++ [(q1, y + p, 9000 + q2)]).length c5) (by omega)
        have n5 := hup.size
        simp only [World.size_alloc] at n5
        simp only [List.length_append, List.length_singleton] at st4 hb4
        go_wp2
        go_roundw
        case rel => exact ⟨k + 1, y + p, _, _, _, by omega, rfl, by omega, by omega, by go_num, st4, hb4, by simp; omega⟩
        case measure => simp [intOf]; omega
    · have b0 := st.box.cell 0 rfl
      have q0 := hb.frozen 0
      have qc := hb.cell 0 rfl
      have q1 := (hb.set 0 (.slice A L.length c)).cell 0 rfl
      have sl := st.len
      have so := OwnR.upd st.own (upd_setCell w2 w.heap.size 0 (.slice A L.length c)) (OwnR.zn st.own) (.inr (by omega))
      have sc := st.cur.upd (upd_setCell w2 w.heap.size 0 (.slice A L.length c)) hg
      have su := st.upd.set (j := 0) (Nat.le_refl _) (.slice A L.length c)
      go_wp2
      exact bodyPost_ret (v := .agg #[.slice A L.length c]) (by simp [results, Tryz.results100, go_sem, q1]) rfl ⟨L, A, c, rfl, by omega, OwnR.rebase so (by omega), sc, su⟩
end Go.Proofs.YtjfmknhnplefnaaGreat
end

