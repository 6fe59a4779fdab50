/-
  FnPaidOnce: for every list of bytes every member is paid exactly once, whatever is interrupted. No condition.
-/
import Derived.Test.YtccgbilgfnoheaaLawReturned
namespace Go.Proofs.Ytccgbilgfnoheaa
open Go.RowKit
set_option linter.unusedVariables false
set_option linter.unnecessarySimpa false

/-- A run and a bank, valid, in two boxes of one's own, under way. -/
structure WaySt (w0 w : World) (gr gb : Nat) (m : Int) (n k : Nat) (L : List TItem) (K C : List Int) (ρ : RBRes) : Prop where
  st : SendSt w0 w w0.heap.size gr gb m L K C ρ
  okR : runOk m L = true
  okB : bankOk K C = true
  lenL : L.length = n
  lenK : K.length ≤ k

/-- A run and a bank got from bytes, their rows apart. -/
def GotPay2 (w : World) (e : Ending) (w' : World) : Prop :=
  ∃ (m : Int) (L : List TItem) (K C : List Int) (A : Option Addr) (c : Nat) (B : Option Addr) (d : Nat) (D : Option Addr) (f : Nat), e = .returned (.tuple #[.agg #[.int .i64 m, .slice A L.length c], .agg #[.slice B K.length d, .slice D C.length f]]) ∧
    runOk m L = true ∧ bankOk K C = true ∧ L.length ≤ 7 ∧ K.length ≤ 8 ∧ OwnItem w' w.heap.size (.slice A L.length c) L ∧ OwnI w' w.heap.size (.slice B K.length d) K ∧ OwnI w' w.heap.size (.slice D C.length f) C ∧ Sep (.slice A L.length c) (.slice B K.length d) ∧ Sep (.slice A L.length c) (.slice D C.length f) ∧ Sep (.slice B K.length d) (.slice D C.length f) ∧ Same w w'
set_option maxHeartbeats 1000000 in
theorem drawPay2_any (A : Option Addr) (n c : Nat) (w : World) (hn : n ≤ 1048576) (hA : BytesAt w w.heap.size A n) : Calls Try.prog 17 #[.slice A n c] w (GotPay2 w) := by
  go_enter Try.func17, Try.ntmps17
  go_wp2_with fail
  have h3 : BoxAt ((w.alloc (.cells #[.int .i64 0, .slice none 0 0] 26)).alloc (.cells #[.slice none 0 0, .slice none 0 0] 29)) (w.heap.size) 26 [.int .i64 0, .slice none 0 0] := by simpa using (BoxAt.alloc (BoxAt.new w 26 [.int .i64 0, .slice none 0 0]) (.cells #[.slice none 0 0, .slice none 0 0] 29))
  have h4 : BoxAt ((w.alloc (.cells #[.int .i64 0, .slice none 0 0] 26)).alloc (.cells #[.slice none 0 0, .slice none 0 0] 29)) (w.heap.size + 1) 29 [.slice none 0 0, .slice none 0 0] := by simpa using (BoxAt.new (w.alloc (.cells #[.int .i64 0, .slice none 0 0] 26)) 29 [.slice none 0 0, .slice none 0 0])
  have hs0 := (Same.alloc (Same.alloc (Same.refl w) (.cells #[.int .i64 0, .slice none 0 0] 26)) (.cells #[.slice none 0 0, .slice none 0 0] 29))
  generalize ((w.alloc (.cells #[.int .i64 0, .slice none 0 0] 26)).alloc (.cells #[.slice none 0 0, .slice none 0 0] 29)) = w0 at *
  have n0 := hs0.size
  have n4 := h4.lt
  refine (l01New_any A n c _ hn (hA.keep' hs0)).mono ?_
  rintro e w1 ⟨g, rfl, hg0, hc1, hs1⟩
  have n1 := hs1.size
  go_wp2_with fail
  refine (l25Case_any g _ hc1).mono ?_
  rintro e w2 ⟨m, L, K, C, ⟨A2, c2, B2, d2, D2, f2⟩, hee, hp, hc2, hu2⟩
  obtain rfl : e = .returned (.tuple #[.agg #[.int .i64 m, .slice A2 L.length c2], .agg #[.slice B2 K.length d2, .slice D2 C.length f2]]) := hee
  have S2 := hs1.upds hu2 hg0
  replace h3 := h3.same S2
  replace h4 := h4.same S2
  have F := laid4 (w := w) h3 h4 (by omega) (base := w1.heap.size) (by omega) (by omega) (by omega) (by omega) (hs0.trans S2) hp.own.it hp.own.ks hp.own.cs (.int .i64 m) (.slice A2 L.length c2) (.slice B2 K.length d2) (.slice D2 C.length f2)
  have k0 := h3.cell 0 rfl
  have k1 := h3.cell 1 rfl
  have kf0 := h3.frozen 0
  have kf1 := h3.frozen 1
  have h5 := (h4.other (k := w.heap.size) (j := 0) (.int .i64 m) (by omega)).other (k := w.heap.size) (j := 1) (.slice A2 L.length c2) (by omega)
  have q0 := h5.cell 0 rfl
  have q1 := h5.cell 1 rfl
  have qf0 := h5.frozen 0
  have qf1 := h5.frozen 1
  have F0 := F.run.cell 0 rfl
  have F1 := F.run.cell 1 rfl
  have F2 := F.bank.cell 0 rfl
  have F3 := F.bank.cell 1 rfl
  unfold lay4 at F0 F1 F2 F3
  clear h3 h4 h5
  go_wp2
  exact bodyPost_ret (v := .tuple #[.agg #[.int .i64 m, .slice A2 L.length c2], .agg #[.slice B2 K.length d2, .slice D2 C.length f2]]) (by simp [results, Try.results17, go_sem, F0, F1, F2, F3]) rfl
    ⟨m, L, K, C, A2, c2, B2, d2, D2, f2, rfl, hp.okR, hp.okB, hp.lenL, hp.lenK, F.items.rebase (by omega), F.keys.base (by omega), F.cents.base (by omega), hp.own.s1, hp.own.s2, hp.own.s3, F.same⟩

theorem iCrash_some (m : Int) (A : Option Addr) (c : Nat) (L : List TItem) (B : Option Addr) (d : Nat) (K : List Int) (D : Option Addr) (f : Nat) (C : List Int) (lost : Int) (w : World) (base : Nat) (h1 : runOk m L = true) (h2 : bankOk K C = true)
    (oi : OwnItem w base (.slice A L.length c) L) (ok : OwnI w base (.slice B K.length d) K) (oc : OwnI w base (.slice D C.length f) C) :
    Calls Try.prog 19 #[.agg #[.int .i64 m, .slice A L.length c], .agg #[.slice B K.length d, .slice D C.length f], .int .i64 lost] w fun e w' => ∃ L9, runOk m L9 = true ∧ L9.length = L.length ∧ RetRB w m L9 K C e w' := by
  have hl := ok_len h1 h2
  exact (iRunCrash_any m A c L B d K D f C lost w (by omega) (OwnR.cap oi) (OwnR.recs cItem_len oi) (by omega) (OwnI.ints ok) (by omega) (OwnI.ints oc)).mono fun e w' hr => ⟨_, crash_ok h1, crash_len m L lost, hr⟩
theorem cell_two {a b : World} (hs : Same a b) {gr gb : Nat} {p : Addr} (hp : p.block < a.heap.size) (h1 : p.block ≠ gr) (h2 : p.block ≠ gb) {u0 u1 v0 v1 : Value} :
    ((((b.setCell ⟨gr, 0, none⟩ u0).setCell ⟨gr, 1, none⟩ u1).setCell ⟨gb, 0, none⟩ v0).setCell ⟨gb, 1, none⟩ v1).cell? p = a.cell? p := by
  rw [← hs.cell hp]
  refine World.cell?_of_block ?_
  rw [heap_setCell_other _ _ _ _ (by simpa using h2), heap_setCell_other _ _ _ _ (by simpa using h2), heap_setCell_other _ _ _ _ (by simpa using h1), heap_setCell_other _ _ _ _ (by simpa using h1)]
theorem cell_one {a b : World} (hs : Same a b) {gr : Nat} {p : Addr} (hp : p.block < a.heap.size) (h1 : p.block ≠ gr) {u0 u1 : Value} :
    ((b.setCell ⟨gr, 0, none⟩ u0).setCell ⟨gr, 1, none⟩ u1).cell? p = a.cell? p := by
  rw [← hs.cell hp]
  refine World.cell?_of_block ?_
  rw [heap_setCell_other _ _ _ _ (by simpa using h1), heap_setCell_other _ _ _ _ (by simpa using h1)]
theorem timesTo_le (K : List Int) (v : Int) : ∀ n, timesTo K v n ≤ n
  | 0 => Nat.le_refl _
  | n + 1 => by
    have := timesTo_le K v n
    rw [timesTo]; split <;> omega
theorem timesTo_yes {K : List Int} {v : Int} {n : Nat} (h : K[n]? = some v) : timesTo K v (n + 1) = timesTo K v n + 1 := by rw [timesTo, if_pos (by rw [List.getD, h]; rfl)]
theorem timesTo_no {K : List Int} {v x : Int} {n : Nat} (h : K[n]? = some x) (hn : x ≠ v) : timesTo K v (n + 1) = timesTo K v n := by
  rw [timesTo, if_neg]
  rw [List.getD, h]; exact hn
/-- The drawn places as they lie in memory. -/
def PsAt (w : World) (h : Nat) (ps : List Int) : Prop := h < w.heap.size ∧ ∀ (k : Nat) (x : Int), ps[k]? = some x → w.cell? ⟨h, k, none⟩ = some (.int .i64 x)

set_option maxRecDepth 100000 in
set_option maxHeartbeats 4000000 in
theorem lawPaidOnce (A : Option Addr) (n c : Nat) (w : World) (hn : n ≤ 9223372036854775807) (hA : BytesAt w w.heap.size A n) :
    Calls Try.prog 3 #[.slice A n c] w fun e w' => e = .returned (.bool true) ∧ Same w w' := by
  by_cases hbig : n ≤ 1048576
  · go_enter Try.func3, Try.ntmps3
    go_wp2_with fail
    refine (big_no A n c _ hbig).mono ?_
    rintro e w0 ⟨rfl, rfl⟩
    go_wp2_with fail
    refine (drawPay2_any A n c _ hbig hA).mono ?_
    rintro e w1 ⟨m, L, K, C, A1, c1, B1, d1, D1, f1, rfl, hok, hob, hlL, hlK, oi, ok, oc, p1, p2, p3, hs1⟩
    have al := ((Same.refl w1).alloc (.cells #[.int .i64 m, .slice A1 L.length c1] 26)).alloc (.cells #[.slice B1 K.length d1, .slice D1 C.length f1] 29)
    have hm := (runOk_and hok).2.1
    have ws : WaySt w ((w1.alloc (.cells #[.int .i64 m, .slice A1 L.length c1] 26)).alloc (.cells #[.slice B1 K.length d1, .slice D1 C.length f1] 29)) w1.heap.size (w1.heap.size + 1) m L.length 8 L K C ⟨A1, c1, B1, d1, D1, f1⟩ := by
      have hb4 := BoxAt.new (w1.alloc (.cells #[.int .i64 m, .slice A1 L.length c1] 26)) 29 [.slice B1 K.length d1, .slice D1 C.length f1]
      rw [World.size_alloc] at hb4
      have n1 := hs1.size
      refine ⟨⟨(BoxAt.new w1 _ [_, _]).alloc _, hb4, ⟨oi.same al, ok.same al, oc.same al, p1, p2, p3⟩, ⟨fun e => ?_, fun e => ?_, fun e => ?_⟩, ⟨fun e => ?_, fun e => ?_, fun e => ?_⟩, by omega, hs1.trans al, n1, by omega, Nat.le_refl _, by simp; omega⟩, hok, hob, rfl, hlK⟩
      · have := (owns_new oi _ e).2; omega
      · have := (owns_new ok _ e).2; omega
      · have := (owns_new oc _ e).2; omega
      · have := (owns_new oi _ e).2; omega
      · have := (owns_new ok _ e).2; omega
      · have := (owns_new oc _ e).2; omega
    have S2 := hs1.trans al
    clear oi ok oc p1 p2 p3 hok hob
    go_wp2_with fail
    generalize (w1.alloc (.cells #[.int .i64 m, .slice A1 L.length c1] 26)).alloc (.cells #[.slice B1 K.length d1, .slice D1 C.length f1] 29) = w2 at *
    generalize w1.heap.size = gr at *
    generalize hgb : gr + 1 = gb at *
    clear hgb al hs1
    refine (drawPlaces_any A n c _ hbig (hA.keep' S2)).mono ?_
    rintro e w3 ⟨ps, D, g0, rfl, hpl, ho2, hs3⟩
    have ws3 : WaySt w w3 gr gb m L.length (8 + 0) L K C ⟨A1, c1, B1, d1, D1, f1⟩ := ⟨ws.st.world hs3, ws.okR, ws.okB, ws.lenL, ws.lenK⟩
    obtain ⟨a, ha, ha0, ha1⟩ := hpl.get (k := 0) (by omega)
    obtain ⟨h, rfl, _⟩ := ho2.at_ ha
    have hgl := World.block_lt_of_cell? w3 _ (ho2.cell ha)
    have hl12 : (12 : Int) ≤ (ps.length : Int) := by have := hpl.1; omega
    have HPL := Lib.hid hpl
    have hps : PsAt w3 h ps := ⟨hgl, fun k x hx => ho2.cell hx⟩
    have hg2 := (owns_new ho2 h rfl).1
    have lr := ws.st.run.lt
    have lb := ws.st.bank.lt
    have hne1 : h ≠ gr := by omega
    have hne2 : h ≠ gb := by omega
    clear ha hpl ho2 ws hs3 hgl lr lb
    go_wp2
    go_loopw [6] (fun t6 wr => ∃ (k : Nat) (L' : List TItem) (K' C' : List Int) (ρ : RBRes), k ≤ 8 ∧ t6 = .int .i64 k ∧ WaySt w wr gr gb m L.length (8 + k) L' K' C' ρ ∧ PsAt wr h ps) (fun t6 _ => 8 - (intOf t6).toNat)
    case atStart => exact ⟨0, L, K, C, _, by omega, rfl, ws3, hps⟩
    case round =>
      obtain ⟨k, L2, K2, C2, ⟨A2, c2, B2, d2, D2, f2⟩, hk, rfl, ws, hps⟩ := hrel
      clear ws3
      have hln := ok_len ws.okR ws.okB
      have hl7 : L2.length ≤ 7 := by have := ws.lenL; omega
      have oi : OwnItem wr w.heap.size (.slice A2 L2.length c2) L2 := ws.st.own.it
      have ok : OwnI wr w.heap.size (.slice B2 K2.length d2) K2 := ws.st.own.ks
      have oc : OwnI wr w.heap.size (.slice D2 C2.length f2) C2 := ws.st.own.cs
      have hr : BoxAt wr gr 26 [.int .i64 m, .slice A2 L2.length c2] := ws.st.run
      have hb : BoxAt wr gb 29 [.slice B2 K2.length d2, .slice D2 C2.length f2] := ws.st.bank
      have r0 := hr.cell 0 rfl
      have r1 := hr.cell 1 rfl
      have b0 := hb.cell 0 rfl
      have b1 := hb.cell 1 rfl
      by_cases hlt : k < 8
      · obtain ⟨x, hx, hx0, hx1⟩ := HPL.out.get (k := k) (by omega)
        have cx := hps.2 k x hx
        have hlt' : (k : Int) < 8 := by omega
        have q0 : (0 : Int) ≤ (k : Int) := by omega
        have q1 : (k : Int) < (ps.length : Int) := by omega
        have hne := ws.st.ne
        clear hx
        by_cases h0 : x % 4 = 0
        · have t1 : (x % 4 == 0) = true := by simp [h0]
          clear h0
          have oi' := OwnR.same oi (Same.refl wr).drew
          have ok' := OwnI.same ok (Same.refl wr).drew
          have oc' := OwnI.same oc (Same.refl wr).drew
          have hlk := ws.lenK
          go_wp2
          go_region_law ((refine step_of (by rfl) ?_; go_simp; go_at_call 19; refine (iCrash_some m A2 c2 L2 B2 d2 K2 D2 f2 C2 _ _ _ ws.okR ws.okB oi' ok' oc').mono ?_; rintro e w7 ⟨L3, hok3, hl3, A3, c3, B3, d3, D3, f3, rfl, pi, pk, pc, s1, s2, s3, hs7'⟩; dsimp only; (have hs7 := (Same.refl wr).drew.trans hs7'); (have ws7 : WaySt w ((((w7.setCell ⟨gr, 0, none⟩ (.int .i64 m)).setCell ⟨gr, 1, none⟩ (.slice A3 L3.length c3)).setCell ⟨gb, 0, none⟩ (.slice B3 K2.length d3)).setCell ⟨gb, 1, none⟩ (.slice D3 C2.length f3)) gr gb m L.length (8 + (k + 1)) L3 K2 C2 ⟨A3, c3, B3, d3, D3, f3⟩ := ⟨ws.st.newAll hs7 pi pk pc s1 s2 s3, hok3, ws.okB, hl3.trans ws.lenL, by omega⟩); (have hp7 : PsAt ((((w7.setCell ⟨gr, 0, none⟩ (.int .i64 m)).setCell ⟨gr, 1, none⟩ (.slice A3 L3.length c3)).setCell ⟨gb, 0, none⟩ (.slice B3 K2.length d3)).setCell ⟨gb, 1, none⟩ (.slice D3 C2.length f3)) h ps := ⟨by have := hs7.size; have := hps.1; simp; omega, fun j y hy => (cell_two hs7 hps.1 hne1 hne2).trans (hps.2 j y hy)⟩); (have hr7 := hr.same hs7); (have hb7 := hb.same hs7); (have r0 := hr7.cell 0 rfl); (have r1 := hr7.cell 1 rfl); (have y0 := hr7.frozen 0); (have y1 := hr7.frozen 1); (have hb8 := (hb7.other (k := gr) (j := 0) (.int .i64 m) (Ne.symm hne)).other (k := gr) (j := 1) (.slice A3 L3.length c3) (Ne.symm hne)); (have z0 := hb8.frozen 0); (have z1 := hb8.frozen 1); (have b0 := hb8.cell 0 rfl); (have b1 := hb8.cell 1 rfl); clear hl3 hne hr7 hb7 hb8))
          all_goals
            have hk8 : k + 1 ≤ 8 := by omega
            go_wp2
            go_roundw
            case rel => exact ⟨k + 1, L3, K2, C2, _, hk8, by go_num, ws7, hp7⟩
            case measure => simp [intOf]; omega
        · by_cases h1 : x % 4 = 1
          · have t1 : (x % 4 == 0) = false := by simp [h0]
            have t2 : (x % 4 == 1) = true := by simp [h1]
            clear h0 h1
            go_wp2_with fail
            refine (iConfirm_any m A2 c2 L2 B2 d2 K2 D2 f2 C2 _ (by omega) (OwnR.cap oi) (OwnR.recs cItem_len oi) (by omega) (OwnI.ints ok) (wide_ok ws.okB) (by omega) (OwnI.ints oc)).mono ?_
            have hok3 := confirm_ok (K := K2) (C := C2) ws.okR
            have hl3 := confirm_len m L2 K2 C2
            have hlk := ws.lenK
            obtain ⟨L3, hL3⟩ : ∃ L3, L3 = confirm m L2 K2 C2 := ⟨_, rfl⟩
            rw [← hL3]
            rw [← hL3] at hok3 hl3
            rintro e w7 ⟨A3, c3, rfl, pi, hs7⟩
            have ws7 : WaySt w ((w7.setCell ⟨gr, 0, none⟩ (.int .i64 m)).setCell ⟨gr, 1, none⟩ (.slice A3 L3.length c3)) gr gb m L.length (8 + (k + 1)) L3 K2 C2 ⟨A3, c3, B2, d2, D2, f2⟩ := ⟨ws.st.newRun hs7 pi, hok3, ws.okB, hl3.trans ws.lenL, by omega⟩
            have hp7 : PsAt ((w7.setCell ⟨gr, 0, none⟩ (.int .i64 m)).setCell ⟨gr, 1, none⟩ (.slice A3 L3.length c3)) h ps := ⟨by have := hs7.size; have := hps.1; simp; omega, fun j y hy => (cell_one hs7 hps.1 hne1).trans (hps.2 j y hy)⟩
            have hk8 : k + 1 ≤ 8 := by omega
            clear r0 r1 b0 b1 hL3 hok3 hl3 pi cx
            have hr7 := hr.same hs7
            have r0 := hr7.cell 0 rfl
            have r1 := hr7.cell 1 rfl
            have y0 := hr7.frozen 0
            have y1 := hr7.frozen 1
            clear hr7 hne
            go_wp2
            go_roundw
            case rel => exact ⟨k + 1, L3, K2, C2, _, hk8, by go_num, ws7, hp7⟩
            case measure => simp [intOf]; omega
          · have t1 : (x % 4 == 0) = false := by simp [h0]
            have t2 : (x % 4 == 1) = false := by simp [h1]
            clear h0 h1
            go_wp2_with fail
            refine (iSend_any m A2 c2 L2 B2 d2 K2 D2 f2 C2 _ (by omega) (OwnR.cap oi) (OwnR.recs cItem_len oi) (by omega) (OwnI.ints ok) (wide_ok ws.okB) (by omega) (OwnI.ints oc)).mono ?_
            have hok3 := sendL_ok (K := K2) (C := C2) ws.okR
            have hob3 := sendKC_ok (m := m) (L := L2) ws.okB
            have hl3 := sendL_len m L2 K2 C2
            have hk3 := sendK_len m L2 K2 C2
            have hlk := ws.lenK
            obtain ⟨L3, hL3⟩ : ∃ L3, L3 = sendL m L2 K2 C2 := ⟨_, rfl⟩
            obtain ⟨K3, hK3⟩ : ∃ K3, K3 = sendK m L2 K2 C2 := ⟨_, rfl⟩
            obtain ⟨C3, hC3⟩ : ∃ C3, C3 = sendC m L2 K2 C2 := ⟨_, rfl⟩
            rw [← hL3, ← hK3, ← hC3]
            rw [← hL3] at hok3 hl3
            rw [← hK3] at hob3 hk3
            rw [← hC3] at hob3
            rintro e w7 ⟨A3, c3, B3, d3, D3, f3, rfl, pi, pk, pc, s1, s2, s3, hs7⟩
            have ws7 : WaySt w ((((w7.setCell ⟨gr, 0, none⟩ (.int .i64 m)).setCell ⟨gr, 1, none⟩ (.slice A3 L3.length c3)).setCell ⟨gb, 0, none⟩ (.slice B3 K3.length d3)).setCell ⟨gb, 1, none⟩ (.slice D3 C3.length f3)) gr gb m L.length (8 + (k + 1)) L3 K3 C3 ⟨A3, c3, B3, d3, D3, f3⟩ := ⟨ws.st.newAll hs7 pi pk pc s1 s2 s3, hok3, hob3, hl3.trans ws.lenL, by omega⟩
            have hp7 : PsAt ((((w7.setCell ⟨gr, 0, none⟩ (.int .i64 m)).setCell ⟨gr, 1, none⟩ (.slice A3 L3.length c3)).setCell ⟨gb, 0, none⟩ (.slice B3 K3.length d3)).setCell ⟨gb, 1, none⟩ (.slice D3 C3.length f3)) h ps := ⟨by have := hs7.size; have := hps.1; simp; omega, fun j y hy => (cell_two hs7 hps.1 hne1 hne2).trans (hps.2 j y hy)⟩
            have hk8 : k + 1 ≤ 8 := by omega
            clear r0 r1 b0 b1 hL3 hK3 hC3 hok3 hob3 hl3 hk3 pi pk pc s1 s2 s3 cx
            have hr7 := hr.same hs7
            have hb7 := hb.same hs7
            have r0 := hr7.cell 0 rfl
            have r1 := hr7.cell 1 rfl
            have y0 := hr7.frozen 0
            have y1 := hr7.frozen 1
            have hb8 := (hb7.other (k := gr) (j := 0) (.int .i64 m) (Ne.symm hne)).other (k := gr) (j := 1) (.slice A3 L3.length c3) (Ne.symm hne)
            have z0 := hb8.frozen 0
            have z1 := hb8.frozen 1
            have b0 := hb8.cell 0 rfl
            have b1 := hb8.cell 1 rfl
            clear hr7 hb7 hb8 hne
            go_wp2
            go_roundw
            case rel => exact ⟨k + 1, L3, K3, C3, _, hk8, by go_num, ws7, hp7⟩
            case measure => simp [intOf]; omega
      · have hneg : ¬ (k : Int) < 8 := by omega
        have hlk := ws.lenK
        have hsp := fin_spec ws.okR ws.okB (show K2.length + L2.length < 2000 by omega)
        have hfl := finL_len m L2 K2 C2
        have S4 := ws.st.same
        go_wp2_with fail
        refine (iFinish_any m A2 c2 L2 B2 d2 K2 D2 f2 C2 _ (by omega) (OwnR.cap oi) (OwnR.recs cItem_len oi) (by omega) (OwnI.ints ok) (wide_ok ws.okB) (by omega) (OwnI.ints oc)).mono ?_
        obtain ⟨FL, hFL⟩ : ∃ F, F = finL m L2 K2 C2 := ⟨_, rfl⟩
        obtain ⟨FK, hFK⟩ : ∃ F, F = finK m L2 K2 C2 := ⟨_, rfl⟩
        obtain ⟨FC, hFC⟩ : ∃ F, F = finC m L2 K2 C2 := ⟨_, rfl⟩
        rw [← hFL, ← hFK, ← hFC]
        rw [← hFL, ← hFK, ← hFC] at hsp
        rw [← hFL] at hfl
        obtain ⟨g1, g2, g3, g4⟩ := hsp
        have hfl7 : FL.length ≤ 7 := by omega
        have hfk := bankOk_iff.1 g2
        have hfk2 := hfk.2.1
        have hfc2 : FC.length ≤ 2000 := by omega
        have hmm := (runOk_and g1).2.1
        have HFLen := Lib.hid hfl
        have HG1 := Lib.hid g1
        have HG2 := Lib.hid g2
        have HG4 := Lib.hid g4
        have HG3 := Lib.hid g3
        have HOKI := Lib.hid (fun (i : Nat) (x : TItem) (hx : FL[i]? = some x) => (itemOk_iff.1 ((runOk_and g1).1 i x hx).1).1)
        rintro e w7 ⟨A3, c3, B3, d3, D3, f3, rfl, pi, pk, pc, _, _, _, hs7⟩
        have al7 := ((Same.refl w7).alloc (.cells #[.int .i64 m, .slice A3 FL.length c3] 26)).alloc (.cells #[.slice B3 FK.length d3, .slice D3 FC.length f3] 29)
        have hx := (BoxAt.new w7 26 [.int .i64 m, .slice A3 FL.length c3]).alloc (.cells #[.slice B3 FK.length d3, .slice D3 FC.length f3] 29)
        have hy : BoxAt ((w7.alloc (.cells #[.int .i64 m, .slice A3 FL.length c3] 26)).alloc (.cells #[.slice B3 FK.length d3, .slice D3 FC.length f3] 29)) (w7.heap.size + 1) 29 [.slice B3 FK.length d3, .slice D3 FC.length f3] := by
          have := BoxAt.new (w7.alloc (.cells #[.int .i64 m, .slice A3 FL.length c3] 26)) 29 [.slice B3 FK.length d3, .slice D3 FC.length f3]
          rw [World.size_alloc] at this
          exact this
        have iL := (OwnR.recs cItem_len pi).same al7
        have hcL := OwnR.cap pi
        have iK := (OwnI.ints pk).same al7
        have iC := (OwnI.ints pc).same al7
        replace hr := (hr.same hs7).same al7
        replace hb := (hb.same hs7).same al7
        have S8 := (S4.trans hs7).trans al7
        clear r0 r1 b0 b1 hFL hFK hFC pi pk pc ws oi ok oc hps g1 g2 g3 g4 hfl hfk
        have x0 := hx.cell 0 rfl
        have x1 := hx.cell 1 rfl
        go_wp2_with fail
        generalize (w7.alloc (.cells #[.int .i64 m, .slice A3 FL.length c3] 26)).alloc (.cells #[.slice B3 FK.length d3, .slice D3 FC.length f3] 29) = w8 at *
        generalize w7.heap.size = gx at *
        generalize hgy : gx + 1 = gy at *
        clear hgy
        refine (iRunOk_any m A3 c3 FL _ (by omega) hcL iL).mono ?_
        rintro e w9 ⟨rfl, hs9⟩
        rw [HG1.out]
        have y0 := (hy.same hs9).cell 0 rfl
        have y1 := (hy.same hs9).cell 1 rfl
        clear x0 x1
        go_wp2_with fail
        refine (iBankOk_any B3 D3 d3 f3 FK FC _ (by omega) (by omega) (wide_ok HG2.out) (iK.same hs9) (iC.same hs9)).mono ?_
        rintro e w10 ⟨rfl, hs10⟩
        rw [HG2.out]
        clear y0 y1
        replace hs9 := hs9.trans hs10
        replace hx := hx.same hs9
        replace hy := hy.same hs9
        replace hr := hr.same hs9
        replace hb := hb.same hs9
        replace iL := iL.same hs9
        replace iK := iK.same hs9
        have S10 := S8.trans hs9
        have e1 : ((FL.length : Int) != (L2.length : Int)) = false := by rw [HFLen.out]; simp
        have x1 := hx.cell 1 rfl
        have r1 := hr.cell 1 rfl
        go_wp2
        clear x1 r1
        go_loopw [9] (fun t9 wq => ∃ i : Nat, i ≤ FL.length ∧ t9 = .int .i64 i ∧ Same w10 wq) (fun t9 _ => FL.length - (intOf t9).toNat)
        case atStart => exact ⟨0, Nat.zero_le _, rfl, Same.refl _⟩
        case round =>
          obtain ⟨i, hi, rfl, S11⟩ := hrel
          have x1 := (hx.same S11).cell 1 rfl
          by_cases hlt2 : i < FL.length
          · obtain ⟨bb, off, z, rfl, cz, HZ, hbl⟩ := iL.at_ hlt2
            obtain ⟨v0, v1, v2⟩ := z
            have hz := HG4.out _ (List.mem_of_getElem? HZ.out)
            have hzi := HOKI.out i _ HZ.out
            dsimp only at hz hzi
            obtain rfl : v2 = 2 := hz.1
            obtain ⟨key, hkey⟩ : ∃ key, key = m * 1000 + v0 := ⟨_, rfl⟩
            have hone := timesTo_once HG2.out (show hasK FK key = true by rw [hkey]; exact hz.2)
            have HK := Lib.hid hkey
            have HONE := Lib.hid hone
            have HCZ := Lib.hid (fun (wq : World) (S : Same w10 wq) (j : Nat) (u : Value) (hu : (cItem (v0, v1, (2 : Int)))[j]? = some u) => (S.cell (p := ⟨bb, off + i * 3 + j, none⟩) hbl).trans (cz j u hu))
            have q0 : (0 : Int) ≤ (i : Int) := by omega
            have q1 : (i : Int) < (FL.length : Int) := by omega
            have k1 : IntKind.i64.wrap (m * 1000) = m * 1000 := IntWalk.i64_in _ (by omega)
            have k2 : IntKind.i64.wrap (m * 1000 + v0) = key := by rw [hkey]; exact IntWalk.i64_in _ (by omega)
            clear hz hkey hone cz
            go_wp2
            clear x1
            go_loopw [10, 11] (fun t10 t11 wq => ∃ j : Nat, j ≤ FK.length ∧ t11 = .int .i64 j ∧ t10 = .int .i64 (timesTo FK key j : Nat) ∧ Same w10 wq) (fun _ t11 _ => FK.length - (intOf t11).toNat)
            case atStart => exact ⟨0, Nat.zero_le _, rfl, rfl, S11⟩
            case round =>
              obtain ⟨j, hj, rfl, rfl, S12⟩ := hrel
              clear S11
              have y0 := (hy.same S12).cell 0 rfl
              have htl := timesTo_le FK key j
              by_cases hlt3 : j < FK.length
              · obtain ⟨b2, off2, y, rfl, cy, HY, hbl2⟩ := (iK.same S12).at_ hlt3
                have x0 := (hx.same S12).cell 0 rfl
                have x1 := (hx.same S12).cell 1 rfl
                have d0 := HCZ.out _ S12 0 _ rfl
                simp only [Nat.add_zero] at d0
                have q2 : (0 : Int) ≤ (j : Int) := by omega
                have q3 : (j : Int) < (FK.length : Int) := by omega
                by_cases hyk : y = key
                · have e2 : (y == key) = true := by simp [hyk]
                  have HT := Lib.hid (timesTo_yes (v := key) (by rw [HY.out, hyk]))
                  have ht0 : (0 : Int) ≤ (timesTo FK key j : Nat) := by omega
                  have ht1 : ((timesTo FK key j : Nat) : Int) ≤ 2000 := by omega
                  obtain ⟨tn, htn⟩ : ∃ tn : Nat, tn = timesTo FK key j := ⟨_, rfl⟩
                  rw [← htn] at ht0 ht1 HT ⊢
                  clear hyk htl htn
                  go_wp2
                  go_quiet (fail)
                  go_wp2
                  go_roundw
                  case rel => exact ⟨j + 1, hlt3, by go_num, by rw [HT.out]; go_num, S12.drewN _⟩
                  case measure => simp [intOf]; omega
                · have e2 : (y == key) = false := by simp [hyk]
                  have HT := Lib.hid (timesTo_no HY.out hyk)
                  obtain ⟨tn, htn⟩ : ∃ tn : Nat, tn = timesTo FK key j := ⟨_, rfl⟩
                  rw [← htn] at HT ⊢
                  clear hyk htl htn
                  go_wp2
                  go_quiet (fail)
                  go_wp2
                  go_roundw
                  case rel => exact ⟨j + 1, hlt3, by go_num, by rw [HT.out], S12.drewN _⟩
                  case measure => simp [intOf]; omega
              · have hjl : j = FK.length := by omega
                subst hjl
                have hneg3 : ¬ (FK.length : Int) < (FK.length : Int) := by omega
                rw [HONE.out]
                have x1 := (hx.same S12).cell 1 rfl
                have d2 := HCZ.out _ S12 2 _ rfl
                clear htl
                go_wp2
                go_roundw
                case rel => exact ⟨i + 1, hlt2, by go_num, S12⟩
                case measure => simp [intOf]; omega
          · have hneg2 : ¬ (i : Int) < (FL.length : Int) := by omega
            have y0 := (hy.same S11).cell 0 rfl
            have b0 := (hb.same S11).cell 0 rfl
            have e2 : decide ((K2.length : Int) ≤ (FK.length : Int)) = true := by have := HG3.out; simp; omega
            have hg3 : (K2.length : Int) ≤ (FK.length : Int) := by have := HG3.out; omega
            go_wp2
            go_ret
            exact ⟨by first | rfl | (simp; omega), S10.trans S11⟩
  · go_enter Try.func3, Try.ntmps3
    go_wp2_with (go_at_call 16; refine (big_yes A n c _ hn hbig).mono ?_; rintro e w' ⟨rfl, rfl⟩)
    go_ret
    exact ⟨rfl, Same.refl _⟩
end Go.Proofs.Ytccgbilgfnoheaa
