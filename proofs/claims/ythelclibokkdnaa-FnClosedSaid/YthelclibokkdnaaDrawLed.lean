/-
  Postings and ledgers, drawn.
-/
import Derived.Test.YthelclibokkdnaaDraw
import Derived.Test.YthelclibokkdnaaPostS
import Derived.IntWalk
import Derived.Deep.Cut
import Derived.Deep.CutRange
import Derived.Deep.RegionLaw
namespace Go.Proofs.Ythelclibokkdnaa
open Go.RowKit
set_option linter.unusedVariables false

theorem Upd.set {lo hi : Nat} {a b : World} (h : Upd lo hi a b) {g j : Nat} (hg : a.heap.size ≤ g) (u : Value) : Upd lo hi a (b.setCell ⟨g, j, none⟩ u) :=
  h.trans' (upd_setCell b g j u) hg

set_option maxHeartbeats 1000000 in
theorem l28Posting_any (g : Nat) (w : World) (hc : Cur w g) : Calls Try.prog 82 #[.pointer (some ⟨g, 0, none⟩)] w fun e w' =>
    ∃ m d k z : Int, e = .returned (.agg #[.int .i64 m, .int .i64 d, .int .i64 k, .int .i64 z]) ∧ 0 ≤ m ∧ m < 60 ∧ 1 ≤ d ∧ d ≤ 9 ∧ 1 ≤ k ∧ k ≤ 9 ∧ d ≠ k ∧ 1 ≤ z ∧ z ≤ 9999 ∧ Cur w' g ∧ Upd g (g + 1) w w' := by
  have hg := hc.lt
  go_enter Try.func82, Try.ntmps82
  go_wp2_with fail
  have hb := BoxAt.new w 25 [.int .i64 0, .int .i64 0, .int .i64 0, .int .i64 0]
  have hs0 := (Same.refl w).alloc (.cells #[.int .i64 0, .int .i64 0, .int .i64 0, .int .i64 0] 25)
  generalize w.alloc (.cells #[.int .i64 0, .int .i64 0, .int .i64 0, .int .i64 0] 25) = w0 at *
  refine (l01Below_any g 9 _ (by omega) (by omega) (hc.same hs0)).mono ?_
  rintro e w1 ⟨a, rfl, a0, a1, hc1, hu1⟩
  have ka : IntKind.i64.wrap (1 + a) = 1 + a := IntWalk.i64_in _ (by omega)
  go_wp2_with fail
  refine (l01Below_any g 60 _ (by omega) (by omega) hc1).mono ?_
  rintro e w2 ⟨m, rfl, m0, m1, hc2, hu2⟩
  go_wp2_with fail
  refine (l01Below_any g 8 _ (by omega) (by omega) hc2).mono ?_
  rintro e w3 ⟨x, rfl, x0, x1, hc3, hu3⟩
  have kx : IntKind.i64.wrap (1 + a + x) = 1 + a + x := IntWalk.i64_in _ (by omega)
  have et : Int.tmod (1 + a + x) 9 = (1 + a + x) % 9 := Int.tmod_eq_emod_of_nonneg (by omega)
  have kr : IntKind.i64.wrap (1 + Int.tmod (1 + a + x) 9) = 1 + Int.tmod (1 + a + x) 9 := IntWalk.i64_in _ (by rw [et]; omega)
  have ET := Lib.hid et
  clear et
  go_wp2_with fail
  refine (l01Below_any g 9999 _ (by omega) (by omega) hc3).mono ?_
  rintro e w4 ⟨z, rfl, z0, z1, hc4, hu4⟩
  have kz : IntKind.i64.wrap (1 + z) = 1 + z := IntWalk.i64_in _ (by omega)
  have U := ((hu1.trans hu2).trans hu3).trans hu4
  have H4 := hb.upd U (.inr (by omega))
  have f0 := H4.frozen 0
  have f1 := H4.frozen 1
  have f2 := H4.frozen 2
  have f3 := H4.frozen 3
  have c0 := H4.cell 0 rfl
  have c1 := H4.cell 1 rfl
  have c2 := H4.cell 2 rfl
  have c3 := H4.cell 3 rfl
  have K4 := (((H4.set 0 (.int .i64 m)).set 1 (.int .i64 (1 + a))).set 2 (.int .i64 (1 + Int.tmod (1 + a + x) 9))).set 3 (.int .i64 (1 + z))
  rw [ET.out] at K4
  have K1 := H4.set 0 (.int .i64 m)
  have K2 := K1.set 1 (.int .i64 (1 + a))
  have K3 := K2.set 2 (.int .i64 (1 + (1 + a + x) % 9))
  have y0 := K1.cell 0 rfl
  have y1 := K2.cell 1 rfl
  have y2 := K3.cell 2 rfl
  have y3 := K4.cell 3 rfl
  go_wp2
  refine bodyPost_ret (v := .agg #[.int .i64 m, .int .i64 (1 + a), .int .i64 (1 + (1 + a + x) % 9), .int .i64 (1 + z)]) (by simp [results, Try.results82, go_sem, y0, y1, y2, y3]) rfl ⟨_, _, _, _, rfl, m0, by omega, by omega, by omega, by omega, by omega, by omega, by omega, by omega, ?_, ?_⟩
  · exact (((hc4.upd (upd_setCell _ _ _ _) hg).upd (upd_setCell _ _ _ _) hg).upd (upd_setCell _ _ _ _) hg).upd (upd_setCell _ _ _ _) hg
  · exact (((((hs0.upd g (g + 1)).trans U).set (Nat.le_refl _) _).set (Nat.le_refl _) _).set (Nat.le_refl _) _).set (Nat.le_refl _) _

/-! What a drawn ledger holds. -/
def SmallP (p : TPosting) : Prop := 0 ≤ p.1 ∧ p.1 < 60 ∧ 1 ≤ p.2.1 ∧ p.2.1 ≤ 9 ∧ 1 ≤ p.2.2.1 ∧ p.2.2.1 ≤ 9 ∧ p.2.1 ≠ p.2.2.1 ∧ 1 ≤ p.2.2.2 ∧ p.2.2.2 ≤ 9999
def Small (L : List TPosting) : Prop := ∀ p ∈ L, SmallP p
theorem SmallP.ok {p : TPosting} (h : SmallP p) : postingOk p = true := by
  obtain ⟨m, d, c, z⟩ := p
  obtain ⟨h1, h2, h3, h4, h5, h6, h7, h8, h9⟩ := h
  dsimp only at h1 h2 h3 h4 h5 h6 h7 h8 h9
  exact postingOk_iff.2 ⟨⟨h1, by omega⟩, ⟨h3, h4⟩, ⟨h5, h6⟩, h7, h8, by omega⟩
theorem Small.ok {L : List TPosting} (h : Small L) (hl : L.length ≤ 300) : ledgerOk L = true := by
  rw [ledgerOk, Bool.and_eq_true, decide_eq_true_eq]
  exact ⟨hl, List.all_eq_true.2 fun p hp => (h p hp).ok⟩
theorem Small.push {L : List TPosting} {p : TPosting} (h : Small L) (hp : SmallP p) : Small (L ++ [p]) := by
  intro q hq
  rcases List.mem_append.1 hq with hq | hq
  · exact h q hq
  · simp at hq; subst hq; exact hp
theorem Small.post {L : List TPosting} {p : TPosting} (h : Small L) (hp : SmallP p) : Small (postL L p) := by
  unfold postL
  split
  · exact h.push hp
  · exact h
theorem post_len (L : List TPosting) (p : TPosting) : (postL L p).length ≤ L.length + 1 := by
  unfold postL; split <;> simp
theorem OwnR.nil_c {T : Type} {e : TypeId} {s : Nat} {cells : T → List Value} {w : World} {base n c : Nat} {A : Option Addr} {L : List T} (h : OwnR e s cells w base (.slice A n c) L) : A = none → c = 0 := fun hA => by
  subst hA
  rcases h.2 with ⟨hv, _⟩ | ⟨g', cap, cur, hv, _⟩
  · injection hv
  · injection hv with hv _ _; cases hv

/-- A ledger while it is drawn: its box lies in block gl, its row in blocks from B on. -/
structure LedSt (w wr : World) (g gl B : Nat) (k : Nat) (A : Option Addr) (c : Nat) (L : List TPosting) : Prop where
  small : Small L
  len : L.length ≤ k
  box : BoxAt wr gl 38 [.slice A L.length c]
  own : OwnPosting wr B (.slice A L.length c) L
  cur : Cur wr g
  upd : Upd g (g + 1) w wr
section
variable {w wr wr' : World} {g gl B k : Nat} {A : Option Addr} {c : Nat} {L : List TPosting}
theorem LedSt.draw (h : LedSt w wr g gl B k A c L) (hu : Upd g (g + 1) wr wr') (hc : Cur wr' g) (h1 : g < gl) (h2 : g < B) : LedSt w wr' g gl B k A c L :=
  ⟨h.small, h.len, h.box.upd hu (.inr h1), OwnR.upd h.own hu (OwnR.zn h.own) (.inr h2), hc, h.upd.trans hu⟩
theorem LedSt.same (h : LedSt w wr g gl B k A c L) (hs : Same wr wr') : LedSt w wr' g gl B k A c L :=
  ⟨h.small, h.len, h.box.same hs, h.own.same hs, h.cur.same hs, h.upd.trans (hs.upd _ _)⟩
theorem LedSt.posted {p : TPosting} {A' : Option Addr} {c' : Nat} (h : LedSt w wr g gl B k A c L) (hp : SmallP p) (hs : Same wr wr') (ho : OwnPosting wr' wr.heap.size (.slice A' (postL L p).length c') (postL L p)) (h1 : g < gl) (h2 : gl < B)
    (hb : B ≤ wr.heap.size) (hw : w.heap.size ≤ gl) : LedSt w (wr'.setCell ⟨gl, 0, none⟩ (.slice A' (postL L p).length c')) g gl B (k + 1) A' c' (postL L p) := by
  have hg := h.box.lt
  refine ⟨h.small.post hp, Nat.le_trans (post_len _ _) (Nat.succ_le_succ h.len), (h.box.same hs).set 0 _, (ho.upd (upd_setCell _ _ _ _) ho.zn (.inr (by omega))).rebase hb, (h.cur.same hs).upd (upd_setCell _ _ _ _) h1, (h.upd.trans (hs.upd _ _)).set hw _⟩
end

set_option maxRecDepth 100000 in
set_option maxHeartbeats 2000000 in
theorem l28Ledger_any (g : Nat) (w : World) (hc : Cur w g) : Calls Try.prog 72 #[.pointer (some ⟨g, 0, none⟩)] w fun e w' =>
    ∃ (L : List TPosting) (A : Option Addr) (c : Nat), e = .returned (.agg #[.slice A L.length c]) ∧ L.length ≤ 11 ∧ Small L ∧ OwnPosting w' w.heap.size (.slice A L.length c) L ∧ Cur w' g ∧ Upd g (g + 1) w w' := by
  have hg := hc.lt
  go_enter Try.func72, Try.ntmps72
  go_wp2
  have h1 : BoxAt ((w.alloc (.cells #[.slice none 0 0] 38)).alloc (.cells #[.slice none 0 0] 38)) (w.heap.size) 38 [.slice none 0 0] := by simpa using (BoxAt.alloc (BoxAt.new w 38 [.slice none 0 0]) (.cells #[.slice none 0 0] 38))
  have h2 : BoxAt ((w.alloc (.cells #[.slice none 0 0] 38)).alloc (.cells #[.slice none 0 0] 38)) (w.heap.size + 1) 38 [.slice none 0 0] := by simpa using (BoxAt.new (w.alloc (.cells #[.slice none 0 0] 38)) 38 [.slice none 0 0])
  have hs0 := (Same.alloc (Same.alloc (Same.refl w) (.cells #[.slice none 0 0] 38)) (.cells #[.slice none 0 0] 38))
  generalize ((w.alloc (.cells #[.slice none 0 0] 38)).alloc (.cells #[.slice none 0 0] 38)) = w0 at *
  have n0 := hs0.size
  have nn := h2.lt
  go_loopw [4] (fun t4 wr => ∃ (k : Nat) (A : Option Addr) (c : Nat) (L : List TPosting), k ≤ 11 ∧ t4 = .int .i64 k ∧ LedSt w wr g (w.heap.size + 1) (w.heap.size + 1 + 1) k A c L ∧ BoxAt wr w.heap.size 38 [.slice none 0 0] ∧ w0.heap.size ≤ wr.heap.size) (fun t4 _ => 12 - (intOf t4).toNat)
  case atStart => exact ⟨0, none, 0, [], by omega, rfl, ⟨fun p hp => (List.not_mem_nil hp).elim, Nat.le_refl _, h2, OwnR.nil _ _ _ _ _, hc.same hs0, hs0.upd _ _⟩, h1, Nat.le_refl _⟩
  case round =>
    obtain ⟨k, A, c, L, hk, rfl, st, hb, nw⟩ := hrel
    clear h1 h2
    go_wp2_with fail
    refine (l01Below_any g 12 _ (by omega) (by omega) st.cur).mono ?_
    rintro e w1 ⟨x, rfl, x0, x1, hc1, hu1⟩
    replace st := st.draw hu1 hc1 (by omega) (by omega)
    replace hb := hb.upd hu1 (.inr (by omega))
    replace nw := Nat.le_trans nw hu1.size
    clear hc1 hu1
    by_cases hlt : (k : Int) < x
    · have b0 := st.box.cell 0 rfl
      have st1 := st.same (Same.refl _).drew
      have hb1 := hb.same (Same.refl _).drew
      have hdr : w1.heap.size ≤ w1.drew.heap.size := Nat.le_refl _
      go_wp2
      go_region_law
        (first
          | (refine step_of (by rfl) ?_; go_simp; go_at_call 82; refine (l28Posting_any g _ st1.cur).mono ?_; rintro e w2 ⟨m, d, y, z, rfl, m0, m1, d0, d1, y0, y1, dy, z0, z1, hc2, hu2⟩; dsimp only; (have st2 := st1.draw hu2 hc2 (by omega) (by omega)); (have hb2 := hb1.upd hu2 (.inr (by omega))); (have b2 := st2.box.cell 0 rfl); (have hl2 := st2.len); (have hnw2 := hu2.size))
          | (refine step_of (by rfl) ?_; go_simp; go_at_call 42; refine (sPost_any A c L m d y z _ (by omega) (OwnR.recs cPosting_len st2.own) (OwnR.nil_c st2.own)).mono ?_; rintro e w3 ⟨A3, c3, rfl, ho3, hs3⟩; dsimp only; (have b3 := (st2.box.same hs3).cell 0 rfl); (have f3 := (st2.box.same hs3).frozen 0)))
      all_goals
        have hp : SmallP (m, d, y, z) := ⟨m0, m1, d0, d1, y0, y1, dy, z0, z1⟩
        have st3 := st2.posted hp hs3 ho3 (by omega) (by omega) (by omega) (by omega)
        have hb3 := (hb2.same hs3).other (k := w.heap.size + 1) (j := 0) (.slice A3 (postL L (m, d, y, z)).length c3) (by omega)
        have hnw3 := hs3.size
        have hk3 : k + 1 ≤ 11 := by omega
        go_wp2
        go_roundw
        case rel => exact ⟨k + 1, _, _, _, hk3, by go_num, st3, hb3, by simp; omega⟩
        case measure => simp [intOf]; omega
    · have b0 := st.box.cell 0 rfl
      have q0 := hb.frozen 0
      have qc := hb.cell 0 rfl
      have q1 := (hb.set 0 (.slice A L.length c)).cell 0 rfl
      have zo := OwnR.zn st.own
      have ss := st.small
      have sl := st.len
      have so := OwnR.upd st.own (upd_setCell w1 w.heap.size 0 (.slice A L.length c)) (OwnR.zn st.own) (.inr (by omega))
      have sc := st.cur.upd (upd_setCell w1 w.heap.size 0 (.slice A L.length c)) hg
      have su := st.upd.set (j := 0) (Nat.le_refl _) (.slice A L.length c)
      go_wp2
      exact bodyPost_ret (v := .agg #[.slice A L.length c]) (by simp [results, Try.results72, go_sem, q1]) rfl ⟨L, A, c, rfl, by omega, ss, OwnR.rebase so (by omega), sc, su⟩

/-- A ledger drawn from bytes. -/
def GotLed (w : World) (e : Ending) (w' : World) : Prop :=
  ∃ (L : List TPosting) (A : Option Addr) (c : Nat), e = .returned (.agg #[.slice A L.length c]) ∧ L.length ≤ 11 ∧ Small L ∧ OwnPosting w' w.heap.size (.slice A L.length c) L ∧ Same w w'
set_option maxHeartbeats 400000 in
theorem drawLedger_any (A : Option Addr) (n c : Nat) (w : World) (hn : n ≤ 1048576) (hA : BytesAt w w.heap.size A n) : Calls Try.prog 38 #[.slice A n c] w (GotLed w) := by
  go_enter Try.func38, Try.ntmps38
  go_wp2_with fail
  have h1 : BoxAt (w.alloc (.cells #[.slice none 0 0] 38)) (w.heap.size) 38 [.slice none 0 0] := by simpa using (BoxAt.new w 38 [.slice none 0 0])
  have hs0 := (Same.alloc (Same.refl w) (.cells #[.slice none 0 0] 38))
  generalize (w.alloc (.cells #[.slice none 0 0] 38)) = w0 at *
  have n0 := hs0.size
  refine (l01New_any A n c _ hn (hA.keep' hs0)).mono ?_
  rintro e w1 ⟨g, rfl, hg0, hc1, hs1⟩
  go_wp2_with fail
  refine (l28Ledger_any g _ hc1).mono ?_
  rintro e w2 ⟨L, A2, c2, rfl, hl, sm, ho, hc2, hu2⟩
  have S2 := (hs0.trans hs1).upds hu2 (by omega)
  have hlt := h1.lt
  have hb := (h1.same hs1).upd hu2 (.inl (by omega))
  have n1 := hs1.size
  have q0 := hb.frozen 0
  have qc := hb.cell 0 rfl
  have q1 := (hb.set 0 (.slice A2 L.length c2)).cell 0 rfl
  have zo := OwnR.zn ho
  go_wp2
  exact bodyPost_ret (v := .agg #[.slice A2 L.length c2]) (by simp [results, Try.results38, go_sem, q1]) rfl ⟨L, A2, c2, rfl, hl, sm, OwnR.rebase (OwnR.upd ho (upd_setCell _ _ _ _) zo (.inr (by omega))) (by omega), S2.setCell (by simp) _⟩

set_option maxRecDepth 100000 in
set_option maxHeartbeats 2000000 in
theorem l29Books_any (g : Nat) (w : World) (hc : Cur w g) : Calls Try.prog 69 #[.pointer (some ⟨g, 0, none⟩)] w fun e w' =>
    ∃ (L : List TPosting) (A : Option Addr) (c : Nat) (z : Int), e = .returned (.agg #[.slice A L.length c, .int .i64 z]) ∧ L.length ≤ 11 ∧ Small L ∧ 0 ≤ z ∧ z < 50 ∧ OwnPosting w' w.heap.size (.slice A L.length c) L ∧ Cur w' g ∧ Upd g (g + 1) w w' := by
  have hg := hc.lt
  go_enter Try.func69, Try.ntmps69
  go_wp2_with fail
  have h1 : BoxAt (w.alloc (.cells #[.slice none 0 0, .int .i64 0] 47)) (w.heap.size) 47 [.slice none 0 0, .int .i64 0] := by simpa using (BoxAt.new w 47 [.slice none 0 0, .int .i64 0])
  have hs0 := (Same.alloc (Same.refl w) (.cells #[.slice none 0 0, .int .i64 0] 47))
  generalize (w.alloc (.cells #[.slice none 0 0, .int .i64 0] 47)) = w0 at *
  have n0 := hs0.size
  have hlt := h1.lt
  refine (l28Ledger_any g _ (hc.same hs0)).mono ?_
  rintro e w1 ⟨L, A, c, rfl, hl, sm, ho, hc1, hu1⟩
  have al := (Same.refl w1).alloc (.cells #[.slice A L.length c] 38)
  have h2 := BoxAt.new w1 38 [.slice A L.length c]
  have hb := (h1.upd hu1 (.inr (by omega))).same al
  have U := (hs0.upd g (g + 1)).trans (hu1.trans (al.upd _ _))
  replace ho := ho.same al
  replace hc1 := hc1.same al
  have n1 := hu1.size
  go_wp2
  generalize w1.alloc (.cells #[.slice A L.length c] 38) = w2 at *
  have b0 := h2.cell 0 rfl
  have hcd := hc1.same (Same.refl _).drew
  have h2d := h2.same (Same.refl _).drew
  have h1d := hb.same (Same.refl _).drew
  have had := OwnR.same ho (Same.refl _).drew
  have hud := U.drewN 1
  go_region_law
    (refine step_of (by rfl) ?_; go_simp; go_at_call 71; refine (l01Below_any g 50 _ (by omega) (by omega) hcd).mono ?_; rintro e w3 ⟨z, rfl, z0, z1, hc3, hu3⟩; dsimp only; (have b3 := (h2d.upd hu3 (.inr (by omega))).cell 0 rfl); (have e0 := (h1d.upd hu3 (.inr (by omega))).cell 0 rfl); (have e1 := (h1d.upd hu3 (.inr (by omega))).cell 1 rfl); (have f0 := (h1d.upd hu3 (.inr (by omega))).frozen 0); (have f1 := (h1d.upd hu3 (.inr (by omega))).frozen 1))
  all_goals
    have k3 := h1d.upd hu3 (.inr (by omega))
    have k4 := (k3.set 0 (.slice A L.length c))
    have k5 := (k4.set 1 (.int .i64 z))
    have c4 := k5.cell 0 rfl
    have c5 := k5.cell 1 rfl
    have o3 := OwnR.upd had hu3 (OwnR.zn had) (.inr (by omega))
    have zo := OwnR.zn o3
    have o4 := OwnR.upd o3 (upd_setCell w3 w.heap.size 0 (.slice A L.length c)) zo (.inr (by omega))
    have o5 := OwnR.upd o4 (upd_setCell _ w.heap.size 1 (.int .i64 z)) zo (.inr (by omega))
    have d5 := (hc3.upd (upd_setCell w3 w.heap.size 0 (.slice A L.length c)) hg).upd (upd_setCell _ w.heap.size 1 (.int .i64 z)) hg
    have U5 := (((hud.trans hu3)).set (j := 0) (Nat.le_refl _) (.slice A L.length c)).set (j := 1) (Nat.le_refl _) (.int .i64 z)
    go_wp2
    exact bodyPost_ret (v := .agg #[.slice A L.length c, .int .i64 z]) (by simp [results, Try.results69, go_sem, c4, c5]) rfl ⟨L, A, c, z, rfl, hl, sm, z0, by omega, OwnR.rebase o5 (by omega), d5, U5⟩

/-- Books drawn from bytes. -/
def GotBooks (w : World) (e : Ending) (w' : World) : Prop :=
  ∃ (L : List TPosting) (A : Option Addr) (c : Nat) (z : Int), e = .returned (.agg #[.slice A L.length c, .int .i64 z]) ∧ L.length ≤ 11 ∧ Small L ∧ 0 ≤ z ∧ z < 50 ∧ OwnPosting w' w.heap.size (.slice A L.length c) L ∧ Same w w'
set_option maxHeartbeats 400000 in
theorem drawBooks_any (A : Option Addr) (n c : Nat) (w : World) (hn : n ≤ 1048576) (hA : BytesAt w w.heap.size A n) : Calls Try.prog 35 #[.slice A n c] w (GotBooks w) := by
  go_enter Try.func35, Try.ntmps35
  go_wp2_with fail
  have h1 : BoxAt (w.alloc (.cells #[.slice none 0 0, .int .i64 0] 47)) (w.heap.size) 47 [.slice none 0 0, .int .i64 0] := by simpa using (BoxAt.new w 47 [.slice none 0 0, .int .i64 0])
  have hs0 := (Same.alloc (Same.refl w) (.cells #[.slice none 0 0, .int .i64 0] 47))
  generalize (w.alloc (.cells #[.slice none 0 0, .int .i64 0] 47)) = w0 at *
  have n0 := hs0.size
  refine (l01New_any A n c _ hn (hA.keep' hs0)).mono ?_
  rintro e w1 ⟨g, rfl, hg0, hc1, hs1⟩
  go_wp2_with fail
  refine (l29Books_any g _ hc1).mono ?_
  rintro e w2 ⟨L, A2, c2, z, rfl, hl, sm, z0, z1, ho, hc2, hu2⟩
  have S2 := (hs0.trans hs1).upds hu2 (by omega)
  have hlt := h1.lt
  have hb := (h1.same hs1).upd hu2 (.inl (by omega))
  have n1 := hs1.size
  have q0 := hb.frozen 0
  have q1 := hb.frozen 1
  have qc := hb.cell 0 rfl
  have qd := hb.cell 1 rfl
  have k5 := (hb.set 0 (.slice A2 L.length c2)).set 1 (.int .i64 z)
  have c4 := k5.cell 0 rfl
  have c5 := k5.cell 1 rfl
  have zo := OwnR.zn ho
  go_wp2
  exact bodyPost_ret (v := .agg #[.slice A2 L.length c2, .int .i64 z]) (by simp [results, Try.results35, go_sem, c4, c5]) rfl
    ⟨L, A2, c2, z, rfl, hl, sm, z0, z1, OwnR.rebase (OwnR.upd (OwnR.upd ho (upd_setCell _ _ _ _) zo (.inr (by omega))) (upd_setCell _ _ _ _) zo (.inr (by omega))) (by omega), (S2.setCell (by simp) _).setCell (by simp) _⟩
end Go.Proofs.Ythelclibokkdnaa
