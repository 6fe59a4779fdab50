/- Joined of DrawCase, DrawCase2: what is proved stands ahead of each part. -/
import Derived.Test.YtjfmknhnplefnaaGreatZDrawR
import Derived.Test.YtjfmknhnplefnaaGreatZDraws

section
/-
  Cases, drawn: in memory of their own, their lists short.
-/
namespace Go.Proofs.YtjfmknhnplefnaaGreat
open Go.RowKit
set_option linter.unusedVariables false
set_option linter.unusedSimpArgs false

/-- Four rows, none of them in block gx. -/
structure R4 (w : World) (lo gx : Nat) (vF vP vS vE : Value) (F : List TFact) (P : List TPoint) (S : List TSpell) (E : List TEvent) : Prop where
  f : OwnFact w lo vF F ∧ vF.ownBlock ≠ some gx
  p : OwnPoint w lo vP P ∧ vP.ownBlock ≠ some gx
  s : OwnSpell w lo vS S ∧ vS.ownBlock ≠ some gx
  e : OwnEvent w lo vE E ∧ vE.ownBlock ≠ some gx
section
variable {a b : World} {lo gx : Nat} {vF vP vS vE : Value} {F : List TFact} {P : List TPoint} {S : List TSpell} {E : List TEvent}
theorem R4.same (h : R4 a lo gx vF vP vS vE F P S E) (hs : Same a b) : R4 b lo gx vF vP vS vE F P S E := ⟨⟨OwnR.same h.f.1 hs, h.f.2⟩, ⟨OwnR.same h.p.1 hs, h.p.2⟩, ⟨OwnR.same h.s.1 hs, h.s.2⟩, ⟨OwnR.same h.e.1 hs, h.e.2⟩⟩
theorem R4.turn {g : Nat} (h : R4 a lo gx vF vP vS vE F P S E) (hu : Upd g (g + 1) a b) (hg : g < lo) : R4 b lo gx vF vP vS vE F P S E :=
  ⟨⟨OwnR.turn h.f.1 hu hg, h.f.2⟩, ⟨OwnR.turn h.p.1 hu hg, h.p.2⟩, ⟨OwnR.turn h.s.1 hu hg, h.s.2⟩, ⟨OwnR.turn h.e.1 hu hg, h.e.2⟩⟩
theorem R4.set (h : R4 a lo gx vF vP vS vE F P S E) (j : Nat) (u : Value) : R4 (a.setCell ⟨gx, j, none⟩ u) lo gx vF vP vS vE F P S E :=
  ⟨⟨owns_put h.f.1 h.f.2 j u, h.f.2⟩, ⟨owns_put h.p.1 h.p.2 j u, h.p.2⟩, ⟨owns_put h.s.1 h.s.2 j u, h.s.2⟩, ⟨owns_put h.e.1 h.e.2 j u, h.e.2⟩⟩
theorem R4.put {g : Nat} (h : R4 a lo gx vF vP vS vE F P S E) (j : Nat) (u : Value) (hg : g < lo) : R4 (a.setCell ⟨g, j, none⟩ u) lo gx vF vP vS vE F P S E :=
  ⟨⟨OwnR.put h.f.1 g j u hg, h.f.2⟩, ⟨OwnR.put h.p.1 g j u hg, h.p.2⟩, ⟨OwnR.put h.s.1 g j u hg, h.s.2⟩, ⟨OwnR.put h.e.1 g j u hg, h.e.2⟩⟩
theorem R4.fact {a0 : World} {v vG : Value} {G : List TFact} (h : R4 a0 lo gx vF vP vS vE F P S E) (hs : Same a0 a) (hup : a.grownBy b v.ownBlock) (hv : ∀ k, v.ownBlock = some k → a0.heap.size ≤ k) (ho : OwnFact b lo vG G) (hne : vG.ownBlock ≠ some gx) : R4 b lo gx vG vP vS vE G P S E :=
  ⟨⟨ho, hne⟩, ⟨grown_owns hup (OwnR.same h.p.1 hs) (fun k e1 e2 => by have := hv k e1; have := (OwnR.zn h.p.1 k e2).2; omega), h.p.2⟩, ⟨grown_owns hup (OwnR.same h.s.1 hs) (fun k e1 e2 => by have := hv k e1; have := (OwnR.zn h.s.1 k e2).2; omega), h.s.2⟩,
    ⟨grown_owns hup (OwnR.same h.e.1 hs) (fun k e1 e2 => by have := hv k e1; have := (OwnR.zn h.e.1 k e2).2; omega), h.e.2⟩⟩
theorem OwnM.turn {g base : Nat} {v : Value} {L : List MRule} (h : OwnM a base v L) (hu : Upd g (g + 1) a b) (hg : g < base) : OwnM b base v L := ⟨OwnR.turn h.1 hu hg, fun x hx => ⟨OwnR.turn (h.2 x hx).1 hu hg, (h.2 x hx).2⟩⟩
end
theorem ownFact1 (a : World) (x0 x1 x2 x3 x4 : Int) {base : Nat} (hb : base ≤ a.heap.size) :
    OwnFact (a.alloc (.cells #[.int .i64 x0, .int .i64 x1, .int .i64 x2, .int .i64 x3, .int .i64 x4] 140)) base (.slice (some ⟨a.heap.size, 0, none⟩) 1 1) [(x0, x1, x2, x3, x4)] :=
  World.ownsRow_lit _ _ 1 hb (by unfold maxLen; omega) (by simp)

/-- A case handed back, drawn. -/
def DrawnCase (g : Nat) (w : World) (e : Ending) (w' : World) : Prop :=
  ∃ (D : TCase) (m : CMem), e = .returned (.agg #[.slice m.r D.R.length m.rc, .slice m.f D.F.length m.fc, .slice m.p D.P.length m.pc, .int .i64 D.birth, .int .i64 D.joined, .slice m.s D.S.length m.sc, .slice m.e D.E.length m.ec]) ∧ CaseOwn w' w.heap.size D m ∧ D.Small 1048576 ∧ Cur w' g ∧ Upd g (g + 1) w w'

set_option maxRecDepth 100000 in
set_option maxHeartbeats 4000000 in
theorem l22Case_any (g : Nat) (w : World) (hc : Cur w g) : Calls Tryz.prog 44 #[.pointer (some ⟨g, 0, none⟩)] w (DrawnCase g w) := by
  have hg := hc.lt
  go_enter Tryz.func44, Tryz.ntmps44
  go_wp2_with fail
  have h1 : BoxAt (w.alloc (.cells #[.slice none 0 0, .slice none 0 0, .slice none 0 0, .int .i64 0, .int .i64 0, .slice none 0 0, .slice none 0 0] 38)) (w.heap.size) 38 [.slice none 0 0, .slice none 0 0, .slice none 0 0, .int .i64 0, .int .i64 0, .slice none 0 0, .slice none 0 0] := by simpa using (BoxAt.new w 38 [.slice none 0 0, .slice none 0 0, .slice none 0 0, .int .i64 0, .int .i64 0, .slice none 0 0, .slice none 0 0])
  have hs0 := (Same.alloc (Same.refl w) (.cells #[.slice none 0 0, .slice none 0 0, .slice none 0 0, .int .i64 0, .int .i64 0, .slice none 0 0, .slice none 0 0] 38))
  generalize (w.alloc (.cells #[.slice none 0 0, .slice none 0 0, .slice none 0 0, .int .i64 0, .int .i64 0, .slice none 0 0, .slice none 0 0] 38)) = w0 at *
  have l0 := h1.lt
  refine (l05Store_any g _ (hc.same hs0)).mono ?_
  rintro e w1 ⟨F, A1, c1, rfl, hF, oF, hc1, hu1⟩
  replace h1 := h1.upd hu1 (.inr (by omega))
  have U1 := (hs0.upd g (g + 1)).trans hu1
  have n1 := hu1.size
  clear hu1 hs0
  go_wp2_with fail
  refine (l07Series_any g _ hc1).mono ?_
  rintro e w2 ⟨P, A2, c2, rfl, hP, oP, hc2, hu2⟩
  replace h1 := h1.upd hu2 (.inr (by omega))
  replace oF := OwnR.turn oF hu2 (by omega)
  have U2 := U1.trans hu2
  have n2 := hu2.size
  clear hu2 U1 hc1
  go_wp2_with fail
  refine (l22Member_any g _ hc2).mono ?_
  rintro e w3 ⟨x, y, S, A3, c3, E, A4, c4, rfl, hS, hE, oS, oE, hc3, hu3⟩
  replace h1 := h1.upd hu3 (.inr (by omega))
  replace oF := OwnR.turn oF hu3 (by omega)
  replace oP := OwnR.turn oP hu3 (by omega)
  have U3 := U2.trans hu3
  have n3 := hu3.size
  clear hu3 U2 hc2
  have z1 : (Value.slice A1 F.length c1).ownBlock ≠ some w3.heap.size := fun e => by have := (OwnR.zn oF _ e).2; omega
  have z2 : (Value.slice A2 P.length c2).ownBlock ≠ some w3.heap.size := fun e => by have := (OwnR.zn oP _ e).2; omega
  have z3 : (Value.slice A3 S.length c3).ownBlock ≠ some w3.heap.size := fun e => by have := (OwnR.zn oS _ e).2; omega
  have z4 : (Value.slice A4 E.length c4).ownBlock ≠ some w3.heap.size := fun e => by have := (OwnR.zn oE _ e).2; omega
  have r4 : R4 w3 (w.heap.size + 1) w3.heap.size (.slice A1 F.length c1) (.slice A2 P.length c2) (.slice A3 S.length c3) (.slice A4 E.length c4) F P S E := ⟨⟨OwnR.rebase oF (by omega), z1⟩, ⟨OwnR.rebase oP (by omega), z2⟩, ⟨OwnR.rebase oS (by omega), z3⟩, ⟨OwnR.rebase oE (by omega), z4⟩⟩
  clear oF oP oS oE z1 z2 z3 z4
  have hx := BoxAt.new w3 38 [.slice none 0 0, .slice A1 F.length c1, .slice A2 P.length c2, .int .i64 x, .int .i64 y, .slice A3 S.length c3, .slice A4 E.length c4]
  have al := (Same.refl w3).alloc (.cells #[.slice none 0 0, .slice A1 F.length c1, .slice A2 P.length c2, .int .i64 x, .int .i64 y, .slice A3 S.length c3, .slice A4 E.length c4] 38)
  replace h1 := h1.same al
  replace r4 := r4.same al
  replace hc3 := hc3.same al
  replace U3 := U3.same al
  have l3 := hx.lt
  clear al
  have b1 := hx.cell 1 rfl
  have HB := Lib.hid (fun (u : World) (h : Cur u g) => l01Below_any g 300 u (by omega) (by omega) h)
  have hdr := (Same.refl (w3.alloc (.cells #[.slice none 0 0, .slice A1 F.length c1, .slice A2 P.length c2, .int .i64 x, .int .i64 y, .slice A3 S.length c3, .slice A4 E.length c4] 38))).drew
  go_upto_region 2 with (fail)
  generalize w3.alloc (.cells #[.slice none 0 0, .slice A1 F.length c1, .slice A2 P.length c2, .int .i64 x, .int .i64 y, .slice A3 S.length c3, .slice A4 E.length c4] 38) = w4 at *
  go_cut [] from 12 to 23 (fun wc => ∃ (G : List TFact) (A5 : Option Addr) (c5 : Nat), G.length ≤ 20 ∧ BoxAt wc w.heap.size 38 [.slice none 0 0, .slice none 0 0, .slice none 0 0, .int .i64 0, .int .i64 0, .slice none 0 0, .slice none 0 0] ∧ BoxAt wc w3.heap.size 38 [.slice none 0 0, .slice A5 G.length c5, .slice A2 P.length c2, .int .i64 x, .int .i64 y, .slice A3 S.length c3, .slice A4 E.length c4] ∧ R4 wc (w.heap.size + 1) w3.heap.size (.slice A5 G.length c5) (.slice A2 P.length c2) (.slice A3 S.length c3) (.slice A4 E.length c4) G P S E ∧ Cur wc g ∧ Upd g (g + 1) w wc ∧ w3.heap.size < wc.heap.size)
  case first =>
    go_region_law
      (first
        | (refine step_of (by rfl) ?_; go_simp; go_at_call 46; (have h7 := HB.out _ (hc3.same hdr)); (with_reducible refine Calls.mono h7 ?_); clear h7; rintro e w5 ⟨q, rfl, q0, q1, hc5, hu5⟩; dsimp only; (have g1 := (h1.same hdr).upd hu5 (.inr (by omega))); (have gx := (hx.same hdr).upd hu5 (.inr (by omega))); (have s4 := (r4.same hdr).turn hu5 (by omega)); (have U5 := (U3.same hdr).trans hu5); (have kq : IntKind.i64.wrap (q * 100) = q * 100 := IntWalk.i64_in _ (by omega)); (have kq2 : IntKind.i64.wrap (200000 + q * 100) = 200000 + q * 100 := IntWalk.i64_in _ (by omega)); (have l5 := gx.lt); (have ol := ownFact1 w5 1 0 80 0 (200000 + q * 100) (Nat.le_refl _)); (have al := (Same.refl w5).alloc (.cells #[.int .i64 1, .int .i64 0, .int .i64 80, .int .i64 0, .int .i64 (200000 + q * 100)] 140)); (have d1 := gx.cell 1 rfl); (have d2 := (gx.same al).cell 1 rfl))
        | (refine step_allFact _ (by rfl) (.tmp 17) (.tmp 20) (by rfl) w5.heap.size _ [(1, 0, 80, 0, 200000 + q * 100)] (by rfl) ol A1 c1 F (by rfl) (OwnR.recs cFact_len (s4.same al).f.1) (OwnR.nil_c s4.f.1) (by simp; omega) (by simp) ?_; intro v' w6 ho6 hup hfr; (obtain ⟨G, hG⟩ : ∃ G, G = [((1, 0, 80, 0, 200000 + q * 100) : TFact)] ++ F := ⟨_, rfl⟩); (rw [← hG] at ho6); (have hGl : G.length ≤ 20 := by rw [hG]; simp; omega); (clear hG); (obtain ⟨A5, c5, rfl⟩ := OwnR.form ho6); (have hr : ∀ b, (Value.slice (some ⟨w5.heap.size, 0, none⟩) 1 1).ownBlock = some b → w5.heap.size ≤ b := fun b hb => by cases hb; exact Nat.le_refl _); (have k1 := grown_box hup (g1.same al) (fun e => by have := hr _ e; omega)); (have kx := grown_box hup (gx.same al) (fun e => by have := hr _ e; omega)); (have hr5 := OwnR.zn ho6); (have f1 := kx.frozen 1); (have f2 := kx.cell 1 rfl)))
    all_goals
      have j1 := k1.other (k := w3.heap.size) (j := 1) (.slice A5 G.length c5) (by omega)
      have jx := kx.set 1 (.slice A5 G.length c5)
      have jr := (s4.fact al hup hr (OwnR.rebase ho6 (by omega)) (fun e => by have := (hr5 _ e).1; omega)).set 1 (.slice A5 G.length c5)
      have jc := ((hc5.same al).grow hup (fun b e => by have := hr b e; omega)).upd (upd_setCell _ w3.heap.size 1 (.slice A5 G.length c5)) (by omega)
      have jU := ((U5.same al).grow hup (fun b e => by have := hr b e; omega)).set (g := w3.heap.size) (j := 1) (by omega) (.slice A5 G.length c5)
      have jl := jx.lt
      clear k1 kx g1 gx s4 hc5 U5 f1 f2 d1 d2 al ol ho6 hup hfr hr hr5 HB hdr
      go_wp2_with fail
      go_meet
      exact ⟨G, A5, c5, hGl, j1, jx, jr, jc, jU, jl⟩
  case rest =>
    obtain ⟨G, A5, c5, hGl, h1, hx, r4, hc4, U4, l4⟩ := hcut
    clear HB hdr b1 hc3 U3 l3
    generalize wc = w6 at *
    go_wp2
    go_loopw [4] (fun i wr => ∃ (k : Nat) (L : List MRule) (B : Option Addr) (d : Nat), k ≤ 3 ∧ i = .int .i64 k ∧ L.length ≤ k ∧ SmallR (L.map Prod.fst) 1048576 ∧ BoxAt wr w.heap.size 38 [.slice none 0 0, .slice none 0 0, .slice none 0 0, .int .i64 0, .int .i64 0, .slice none 0 0, .slice none 0 0] ∧ BoxAt wr w3.heap.size 38 [.slice B L.length d, .slice A5 G.length c5, .slice A2 P.length c2, .int .i64 x, .int .i64 y, .slice A3 S.length c3, .slice A4 E.length c4] ∧ OwnM wr (w3.heap.size + 1) (.slice B L.length d) L ∧ R4 wr (w.heap.size + 1) w3.heap.size (.slice A5 G.length c5) (.slice A2 P.length c2) (.slice A3 S.length c3) (.slice A4 E.length c4) G P S E ∧ Cur wr g ∧ Upd g (g + 1) w wr) (fun i _ => 4 - (intOf i).toNat)
    case atStart => exact ⟨0, [], none, 0, by omega, rfl, Nat.le_refl _, fun r hr => (List.not_mem_nil hr).elim, h1, hx, OwnM.nil _ _, r4, hc4, U4⟩
    case round =>
      clear h1 hx r4 hc4 U4
      obtain ⟨k, L, B, d, hk, rfl, hLl, hSm, h1, hx, hm, r4, hc7, U7⟩ := hrel
      have l7 := hx.lt
      go_wp2_with fail
      refine (l01Below_any g 3 _ (by omega) (by omega) hc7).mono ?_
      rintro e w8 ⟨u, rfl, u0, u1, hc8, hu8⟩
      replace h1 := h1.upd hu8 (.inr (by omega))
      replace hx := hx.upd hu8 (.inr (by omega))
      replace hm := OwnM.turn hm hu8 (by omega)
      replace r4 := r4.turn hu8 (by omega)
      have U8 := U7.trans hu8
      have l8 := hx.lt
      clear hu8 hc7 U7
      have ku : IntKind.i64.wrap (1 + u) = 1 + u := IntWalk.i64_in _ (by omega)
      by_cases hlt : (k : Int) < 1 + u
      · have b0 := hx.cell 0 rfl
        have hdr := (Same.refl w8).drew
        go_wp2
        go_region_law
          (first
            | (refine step_of (by rfl) ?_; go_simp; go_at_call 103; refine (l22Rule_any g _ (hc8.same hdr)).mono ?_; rintro e w9 ⟨nm, fr, tq, jo, ra, mo, N, Bn, dn, rfl, hNl, oN, hc9, hu9⟩; dsimp only; (have g1 := (h1.same hdr).upd hu9 (.inr (by omega))); (have gx := (hx.same hdr).upd hu9 (.inr (by omega))); (have gm := OwnM.turn (hm.same hdr) hu9 (by omega)); (have s4 := (r4.same hdr).turn hu9 (by omega)); (have U9 := (U8.same hdr).trans hu9); (have d0 := gx.cell 0 rfl); (have l9 := gx.lt); (have har := addRule_any B d (L.map Prod.fst) (w3.heap.size + 1) _ nm fr tq jo ra mo Bn dn N w9 (by rw [List.length_map]; omega) hSm (by rw [List.length_map]; exact gm.rules) (by omega) oN); (rw [List.length_map] at har); (have HAR := Lib.hid har); (clear har))
            | (refine step_of (by rfl) ?_; go_simp; go_at_call 102; (have h7 := HAR.out); (with_reducible refine Calls.mono h7 ?_); clear h7; rintro e w10 ⟨M, B5, d5, bb, rfl, hMl, hMs, om, hs10⟩; dsimp only; (have k1 := g1.same hs10); (have kx := gx.same hs10); (have t4 := s4.same hs10); (have hc10 := hc9.same hs10); (have U10 := U9.same hs10); (have f0 := kx.frozen 0); (have e0 := kx.cell 0 rfl)))
        all_goals
          have j1 := k1.other (k := w3.heap.size) (j := 0) (.slice B5 M.length d5) (by omega)
          have jx := kx.set 0 (.slice B5 M.length d5)
          have jm := OwnM.put om w3.heap.size 0 (.slice B5 M.length d5) (by omega)
          have jr := t4.set 0 (.slice B5 M.length d5)
          have jc := hc10.upd (upd_setCell _ w3.heap.size 0 (.slice B5 M.length d5)) (by omega)
          have jU := U10.set (g := w3.heap.size) (j := 0) (by omega) (.slice B5 M.length d5)
          clear k1 kx g1 gx gm s4 t4 hc9 hc10 U9 U10 f0 e0 d0 b0 HAR hdr hm hx h1 r4 hc8 U8
          go_wp2
          go_roundw
          case rel => exact ⟨k + 1, M, B5, d5, by omega, by go_num, by omega, hMs, j1, jx, OwnM.rebase jm (by omega), jr, jc, jU⟩
          case measure => simp [intOf]; omega
      · clear l7
        have b0 := hx.cell 0 rfl
        have b1 := hx.cell 1 rfl
        have b2 := hx.cell 2 rfl
        have b3 := hx.cell 3 rfl
        have b4 := hx.cell 4 rfl
        have b5 := hx.cell 5 rfl
        have b6 := hx.cell 6 rfl
        have f0 := h1.frozen 0
        have f1 := h1.frozen 1
        have f2 := h1.frozen 2
        have f3 := h1.frozen 3
        have f4 := h1.frozen 4
        have f5 := h1.frozen 5
        have f6 := h1.frozen 6
        have c0_ := h1.cell 0 rfl
        have c1_ := h1.cell 1 rfl
        have c2_ := h1.cell 2 rfl
        have c3_ := h1.cell 3 rfl
        have c4_ := h1.cell 4 rfl
        have c5_ := h1.cell 5 rfl
        have c6_ := h1.cell 6 rfl
        go_wp2
        have K7 := (((((((h1.set 0 (.slice B L.length d)).set 1 (.slice A5 G.length c5)).set 2 (.slice A2 P.length c2)).set 3 (.int .i64 x)).set 4 (.int .i64 y)).set 5 (.slice A3 S.length c3)).set 6 (.slice A4 E.length c4))
        have y0 := K7.cell 0 rfl
        have y1 := K7.cell 1 rfl
        have y2 := K7.cell 2 rfl
        have y3 := K7.cell 3 rfl
        have y4 := K7.cell 4 rfl
        have y5 := K7.cell 5 rfl
        have y6 := K7.cell 6 rfl
        have pM := (OwnM.put (OwnM.put (OwnM.put (OwnM.put (OwnM.put (OwnM.put (OwnM.put hm w.heap.size 0 (.slice B L.length d) (by omega)) w.heap.size 1 (.slice A5 G.length c5) (by omega)) w.heap.size 2 (.slice A2 P.length c2) (by omega)) w.heap.size 3 (.int .i64 x) (by omega)) w.heap.size 4 (.int .i64 y) (by omega)) w.heap.size 5 (.slice A3 S.length c3) (by omega)) w.heap.size 6 (.slice A4 E.length c4) (by omega))
        have p4 := (R4.put (g := w.heap.size) (R4.put (g := w.heap.size) (R4.put (g := w.heap.size) (R4.put (g := w.heap.size) (R4.put (g := w.heap.size) (R4.put (g := w.heap.size) (R4.put (g := w.heap.size) r4 0 (.slice B L.length d) (by omega)) 1 (.slice A5 G.length c5) (by omega)) 2 (.slice A2 P.length c2) (by omega)) 3 (.int .i64 x) (by omega)) 4 (.int .i64 y) (by omega)) 5 (.slice A3 S.length c3) (by omega)) 6 (.slice A4 E.length c4) (by omega))
        have pc := (((((((hc8.upd (upd_setCell _ w.heap.size 0 (.slice B L.length d)) hg).upd (upd_setCell _ w.heap.size 1 (.slice A5 G.length c5)) hg).upd (upd_setCell _ w.heap.size 2 (.slice A2 P.length c2)) hg).upd (upd_setCell _ w.heap.size 3 (.int .i64 x)) hg).upd (upd_setCell _ w.heap.size 4 (.int .i64 y)) hg).upd (upd_setCell _ w.heap.size 5 (.slice A3 S.length c3)) hg).upd (upd_setCell _ w.heap.size 6 (.slice A4 E.length c4)) hg)
        have pU := (((((((U8.set (j := 0) (Nat.le_refl _) (.slice B L.length d)).set (j := 1) (Nat.le_refl _) (.slice A5 G.length c5)).set (j := 2) (Nat.le_refl _) (.slice A2 P.length c2)).set (j := 3) (Nat.le_refl _) (.int .i64 x)).set (j := 4) (Nat.le_refl _) (.int .i64 y)).set (j := 5) (Nat.le_refl _) (.slice A3 S.length c3)).set (j := 6) (Nat.le_refl _) (.slice A4 E.length c4))
        clear K7
        exact bodyPost_ret (v := .agg #[.slice B L.length d, .slice A5 G.length c5, .slice A2 P.length c2, .int .i64 x, .int .i64 y, .slice A3 S.length c3, .slice A4 E.length c4]) (by simp [results, Tryz.results44, go_sem, y0, y1, y2, y3, y4, y5, y6]) rfl ⟨⟨L.map Prod.fst, G, P, x, y, S, E⟩, ⟨B, d, A5, c5, A2, c2, A3, c3, A4, c4⟩, by show Ending.returned _ = Ending.returned (.agg #[.slice B (L.map Prod.fst).length d, .slice A5 G.length c5, .slice A2 P.length c2, .int .i64 x, .int .i64 y, .slice A3 S.length c3, .slice A4 E.length c4]); rw [List.length_map], ⟨OwnRules.rebase (by show OwnRules _ _ (.slice B (L.map Prod.fst).length d) _; rw [List.length_map]; exact pM.rules) (by omega), OwnR.rebase p4.f.1 (by omega), OwnR.rebase p4.p.1 (by omega), OwnR.rebase p4.s.1 (by omega), OwnR.rebase p4.e.1 (by omega)⟩, ⟨by show (L.map Prod.fst).length ≤ _; rw [List.length_map]; omega, hSm, by show G.length ≤ _; omega, by show P.length ≤ _; omega, by show S.length ≤ _; omega, by show E.length ≤ _; omega⟩, pc, pU⟩
end Go.Proofs.YtjfmknhnplefnaaGreat
end

section
/-
  A case drawn from bytes.
-/
namespace Go.Proofs.YtjfmknhnplefnaaGreat
open Go.RowKit
set_option linter.unusedVariables false

theorem CaseOwn.put {a : World} {base : Nat} {D : TCase} {m : CMem} (h : CaseOwn a base D m) (g j : Nat) (u : Value) (hg : g < base) : CaseOwn (a.setCell ⟨g, j, none⟩ u) base D m :=
  ⟨h.rules.put g j u hg, OwnR.put h.facts g j u hg, OwnR.put h.points g j u hg, OwnR.put h.spells g j u hg, OwnR.put h.events g j u hg⟩
/-- A case drawn from bytes. -/
def GotCase (w : World) (e : Ending) (w' : World) : Prop :=
  ∃ (D : TCase) (m : CMem), e = .returned (.agg #[.slice m.r D.R.length m.rc, .slice m.f D.F.length m.fc, .slice m.p D.P.length m.pc, .int .i64 D.birth, .int .i64 D.joined, .slice m.s D.S.length m.sc, .slice m.e D.E.length m.ec]) ∧ CaseOwn w' w.heap.size D m ∧ D.Small 1048576 ∧ Same w w'
set_option maxHeartbeats 1000000 in
theorem drawCase_any (A : Option Addr) (n c : Nat) (w : World) (hn : n ≤ 1048576) (hA : BytesAt w w.heap.size A n) : Calls Tryz.prog 11 #[.slice A n c] w (GotCase w) := by
  go_enter Tryz.func11, Tryz.ntmps11
  go_wp2_with fail
  have h1 : BoxAt (w.alloc (.cells #[.slice none 0 0, .slice none 0 0, .slice none 0 0, .int .i64 0, .int .i64 0, .slice none 0 0, .slice none 0 0] 38)) (w.heap.size) 38 [.slice none 0 0, .slice none 0 0, .slice none 0 0, .int .i64 0, .int .i64 0, .slice none 0 0, .slice none 0 0] := by simpa using (BoxAt.new w 38 [.slice none 0 0, .slice none 0 0, .slice none 0 0, .int .i64 0, .int .i64 0, .slice none 0 0, .slice none 0 0])
  have hs0 := (Same.alloc (Same.refl w) (.cells #[.slice none 0 0, .slice none 0 0, .slice none 0 0, .int .i64 0, .int .i64 0, .slice none 0 0, .slice none 0 0] 38))
  generalize (w.alloc (.cells #[.slice none 0 0, .slice none 0 0, .slice none 0 0, .int .i64 0, .int .i64 0, .slice none 0 0, .slice none 0 0] 38)) = w0 at *
  have n0 := h1.lt
  refine (l01New_any A n c _ hn (hA.keep' hs0)).mono ?_
  rintro e w1 ⟨g, rfl, hg0, hc1, hs1⟩
  replace h1 := h1.same hs1
  have S1 := hs0.trans hs1
  have n1 := hs1.size
  have ng := hc1.lt
  clear hs0 hs1
  go_wp2_with fail
  refine (l22Case_any g _ hc1).mono ?_
  rintro e w2 ⟨D, m, rfl, ho, hD, hc2, hu2⟩
  replace h1 := h1.upd hu2 (.inl (by omega))
  have S2 := S1.upds hu2 (by omega)
  clear hu2 S1
  have fz : True := trivial
  have f0 := h1.frozen 0
  have f1 := h1.frozen 1
  have f2 := h1.frozen 2
  have f3 := h1.frozen 3
  have f4 := h1.frozen 4
  have f5 := h1.frozen 5
  have f6 := h1.frozen 6
  have c0 := h1.cell 0 rfl
  have c1 := h1.cell 1 rfl
  have c2 := h1.cell 2 rfl
  have c3 := h1.cell 3 rfl
  have c4 := h1.cell 4 rfl
  have c5 := h1.cell 5 rfl
  have c6 := h1.cell 6 rfl
  have K := (((((((h1.set 0 (.slice m.r D.R.length m.rc)).set 1 (.slice m.f D.F.length m.fc)).set 2 (.slice m.p D.P.length m.pc)).set 3 (.int .i64 D.birth)).set 4 (.int .i64 D.joined)).set 5 (.slice m.s D.S.length m.sc)).set 6 (.slice m.e D.E.length m.ec))
  have y0 := K.cell 0 rfl
  have y1 := K.cell 1 rfl
  have y2 := K.cell 2 rfl
  have y3 := K.cell 3 rfl
  have y4 := K.cell 4 rfl
  have y5 := K.cell 5 rfl
  have y6 := K.cell 6 rfl
  have p0 := (CaseOwn.put (CaseOwn.put (CaseOwn.put (CaseOwn.put (CaseOwn.put (CaseOwn.put (CaseOwn.put ho w.heap.size 0 (.slice m.r D.R.length m.rc) (by omega)) w.heap.size 1 (.slice m.f D.F.length m.fc) (by omega)) w.heap.size 2 (.slice m.p D.P.length m.pc) (by omega)) w.heap.size 3 (.int .i64 D.birth) (by omega)) w.heap.size 4 (.int .i64 D.joined) (by omega)) w.heap.size 5 (.slice m.s D.S.length m.sc) (by omega)) w.heap.size 6 (.slice m.e D.E.length m.ec) (by omega))
  have pS := (((((((S2.setCell (p := ⟨w.heap.size, 0, none⟩) (Nat.le_refl _) (.slice m.r D.R.length m.rc)).setCell (p := ⟨w.heap.size, 1, none⟩) (Nat.le_refl _) (.slice m.f D.F.length m.fc)).setCell (p := ⟨w.heap.size, 2, none⟩) (Nat.le_refl _) (.slice m.p D.P.length m.pc)).setCell (p := ⟨w.heap.size, 3, none⟩) (Nat.le_refl _) (.int .i64 D.birth)).setCell (p := ⟨w.heap.size, 4, none⟩) (Nat.le_refl _) (.int .i64 D.joined)).setCell (p := ⟨w.heap.size, 5, none⟩) (Nat.le_refl _) (.slice m.s D.S.length m.sc)).setCell (p := ⟨w.heap.size, 6, none⟩) (Nat.le_refl _) (.slice m.e D.E.length m.ec))
  clear K fz
  go_wp2
  exact bodyPost_ret (v := .agg #[.slice m.r D.R.length m.rc, .slice m.f D.F.length m.fc, .slice m.p D.P.length m.pc, .int .i64 D.birth, .int .i64 D.joined, .slice m.s D.S.length m.sc, .slice m.e D.E.length m.ec]) (by simp [results, Tryz.results11, go_sem, y0, y1, y2, y3, y4, y5, y6]) rfl ⟨D, m, rfl, CaseOwn.rebase p0 (by omega), hD, pS⟩
end Go.Proofs.YtjfmknhnplefnaaGreat
end

