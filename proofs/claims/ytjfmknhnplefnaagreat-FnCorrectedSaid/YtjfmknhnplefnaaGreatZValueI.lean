/-
  The value of a key at a month; the final pay (the program's side).
-/
import Derived.Test.YtjfmknhnplefnaaGreatZBack
import Derived.Test.YtjfmknhnplefnaaGreatZValueAtS
namespace Go.Proofs.YtjfmknhnplefnaaGreat
open Go.RowKit Go.Shelf
set_option linter.unusedVariables false
set_option linter.unusedSimpArgs false
attribute [local go_sem] Oper.semAt_some

theorem valTo_back {L : List TFact} {key m known : Int} : ∀ k, k ≤ L.length → (∀ p ∈ upto (itemB (0, 0, 0, 0, 0) L) k, hit p.2 key m known = false) → valTo L key m known L.length = valTo L key m known (L.length - k)
  | 0, _, _ => rfl
  | k + 1, hk, h => by
    rw [valTo_back k (by omega) (fun p hp => h p (by rw [upto_succ]; exact List.mem_append_left _ hp))]
    obtain ⟨j, hj⟩ : ∃ j, L.length - k = j + 1 := ⟨L.length - k - 1, by omega⟩
    have h1 := h _ (upto_mem (itemB (0, 0, 0, 0, 0) L) (show k < k + 1 by omega))
    unfold itemB at h1
    rw [show L.length - 1 - k = j by omega] at h1
    rw [hj, show L.length - (k + 1) = j by omega]
    show (if hit (L.getD j (0, 0, 0, 0, 0)) key m known = true then _ else valTo L key m known j) = _
    rw [if_neg (by rw [h1]; simp)]
theorem valTo_none {L : List TFact} {key m known : Int} (h : ∀ p ∈ upto (itemB (0, 0, 0, 0, 0) L) L.length, hit p.2 key m known = false) : valueAt L key m known = (0, false) := by
  show valTo L key m known L.length = _
  rw [valTo_back L.length (Nat.le_refl _) h, Nat.sub_self]; rfl
theorem valTo_some {L : List TFact} {key m known : Int} {k : Nat} {ini : List (Nat × TFact)} {last : Nat × TFact} (hk : k ≤ L.length) (he : upto (itemB (0, 0, 0, 0, 0) L) k = ini ++ [last]) (hi : ∀ p ∈ ini, hit p.2 key m known = false) (hl : hit last.2 key m known = true) :
    valueAt L key m known = (last.2.2.2.2.2, true) := by
  show valTo L key m known L.length = _
  obtain ⟨j, rfl⟩ : ∃ j, k = j + 1 := by
    cases k with
    | zero => simp [upto] at he
    | succ j => exact ⟨j, rfl⟩
  rw [upto_succ] at he
  obtain ⟨rfl, e5⟩ := List.append_inj' he rfl
  obtain rfl : itemB (0, 0, 0, 0, 0) L j = last := by simpa using e5
  rw [valTo_back j (by omega) hi]
  obtain ⟨q, hq⟩ : ∃ q, L.length - j = q + 1 := ⟨L.length - j - 1, by omega⟩
  rw [hq]
  unfold itemB at hl ⊢
  rw [show L.length - 1 - j = q by omega] at hl ⊢
  show (if hit (L.getD q (0, 0, 0, 0, 0)) key m known = true then _ else valTo L key m known q) = _
  rw [if_pos hl]

set_option maxRecDepth 100000 in
set_option maxHeartbeats 8000000 in
theorem iValueAt_any (A : Option Addr) (c : Nat) (L : List TFact) (key m known : Int) (w : World) (hz : L.length ≤ 1048576) (hA : AtFact w A L) :
    Calls Tryz.prog 117 #[.agg #[.slice A L.length c], .int .i64 key, .int .i64 m, .int .i64 known] w fun e w' => e = .returned (.tuple #[.int .i64 (valueAt L key m known).1, .bool (valueAt L key m known).2]) ∧ Same w w' := by
  refine (callsIn_wide (n := 8)).1 ?_
  refine callsIn_of_wp_marks Tryz.func117 rfl trivial ?_ rfl
  simp only [Tryz.ntmps117, List.size_toArray, List.length_cons, List.length_nil, Nat.reduceAdd, Nat.reduceSub, Array.replicate_succ, Array.replicate_zero, List.push_toArray, List.append_toArray, List.nil_append, List.cons_append]
  gi_wp2_with fail
  have hk1 : BoxAt ((((((w.alloc (.cells #[.slice A L.length c] 29)).alloc (.cells #[.int .i64 key] 3)).alloc (.cells #[.int .i64 m] 3)).alloc (.cells #[.int .i64 known] 3)).alloc (.cells #[.int .i64 0] 3)).alloc (.cells #[.bool false] 4)) (w.heap.size + 1) 3 [.int .i64 key] := by simpa using (BoxAt.alloc (BoxAt.alloc (BoxAt.alloc (BoxAt.alloc (BoxAt.new (w.alloc (.cells #[.slice A L.length c] 29)) 3 [.int .i64 key]) (.cells #[.int .i64 m] 3)) (.cells #[.int .i64 known] 3)) (.cells #[.int .i64 0] 3)) (.cells #[.bool false] 4))
  have hk2 : BoxAt ((((((w.alloc (.cells #[.slice A L.length c] 29)).alloc (.cells #[.int .i64 key] 3)).alloc (.cells #[.int .i64 m] 3)).alloc (.cells #[.int .i64 known] 3)).alloc (.cells #[.int .i64 0] 3)).alloc (.cells #[.bool false] 4)) (w.heap.size + 1 + 1) 3 [.int .i64 m] := by simpa using (BoxAt.alloc (BoxAt.alloc (BoxAt.alloc (BoxAt.new ((w.alloc (.cells #[.slice A L.length c] 29)).alloc (.cells #[.int .i64 key] 3)) 3 [.int .i64 m]) (.cells #[.int .i64 known] 3)) (.cells #[.int .i64 0] 3)) (.cells #[.bool false] 4))
  have hk3 : BoxAt ((((((w.alloc (.cells #[.slice A L.length c] 29)).alloc (.cells #[.int .i64 key] 3)).alloc (.cells #[.int .i64 m] 3)).alloc (.cells #[.int .i64 known] 3)).alloc (.cells #[.int .i64 0] 3)).alloc (.cells #[.bool false] 4)) (w.heap.size + 1 + 1 + 1) 3 [.int .i64 known] := by simpa using (BoxAt.alloc (BoxAt.alloc (BoxAt.new (((w.alloc (.cells #[.slice A L.length c] 29)).alloc (.cells #[.int .i64 key] 3)).alloc (.cells #[.int .i64 m] 3)) 3 [.int .i64 known]) (.cells #[.int .i64 0] 3)) (.cells #[.bool false] 4))
  have h2 : BoxAt ((((((w.alloc (.cells #[.slice A L.length c] 29)).alloc (.cells #[.int .i64 key] 3)).alloc (.cells #[.int .i64 m] 3)).alloc (.cells #[.int .i64 known] 3)).alloc (.cells #[.int .i64 0] 3)).alloc (.cells #[.bool false] 4)) (w.heap.size + 1 + 1 + 1 + 1) 3 [.int .i64 0] := by simpa using (BoxAt.alloc (BoxAt.new ((((w.alloc (.cells #[.slice A L.length c] 29)).alloc (.cells #[.int .i64 key] 3)).alloc (.cells #[.int .i64 m] 3)).alloc (.cells #[.int .i64 known] 3)) 3 [.int .i64 0]) (.cells #[.bool false] 4))
  have h3 : BoxAt ((((((w.alloc (.cells #[.slice A L.length c] 29)).alloc (.cells #[.int .i64 key] 3)).alloc (.cells #[.int .i64 m] 3)).alloc (.cells #[.int .i64 known] 3)).alloc (.cells #[.int .i64 0] 3)).alloc (.cells #[.bool false] 4)) (w.heap.size + 1 + 1 + 1 + 1 + 1) 4 [.bool false] := by simpa using (BoxAt.new (((((w.alloc (.cells #[.slice A L.length c] 29)).alloc (.cells #[.int .i64 key] 3)).alloc (.cells #[.int .i64 m] 3)).alloc (.cells #[.int .i64 known] 3)).alloc (.cells #[.int .i64 0] 3)) 4 [.bool false])
  have S1 := (Same.alloc (Same.alloc (Same.alloc (Same.alloc (Same.alloc (Same.alloc (Same.refl w) (.cells #[.slice A L.length c] 29)) (.cells #[.int .i64 key] 3)) (.cells #[.int .i64 m] 3)) (.cells #[.int .i64 known] 3)) (.cells #[.int .i64 0] 3)) (.cells #[.bool false] 4))
  generalize ((((((w.alloc (.cells #[.slice A L.length c] 29)).alloc (.cells #[.int .i64 key] 3)).alloc (.cells #[.int .i64 m] 3)).alloc (.cells #[.int .i64 known] 3)).alloc (.cells #[.int .i64 0] 3)).alloc (.cells #[.bool false] 4)) = w1 at *
  refine ⟨trivial, (back_Fact Fence.wide 7 trivial rfl A L.length c w1).mono ?_⟩
  rintro e w2 ⟨rfl, rfl⟩
  have hb := BoxAt.new w1 27 [.slice A L.length c]
  have hsw := (Same.refl w1).alloc (.cells #[.slice A L.length c] 27)
  replace hk1 := hk1.same hsw
  replace hk2 := hk2.same hsw
  replace hk3 := hk3.same hsw
  replace h2 := h2.same hsw
  replace h3 := h3.same hsw
  have S2 := S1.trans hsw
  have hA2 := hA.same S2
  have nW : w1.heap.size < (w1.alloc (.cells #[.slice A L.length c] 27)).heap.size := hb.lt
  have nw : w.heap.size ≤ w1.heap.size := S1.size
  clear S1 hsw
  gi_wp2_with fail
  generalize w1.alloc (.cells #[.slice A L.length c] 27) = W0 at *
  refine wpIn_rangeFunc_ownH rfl (by omega) (gf := 193) (lb := #[.pointer (some ⟨w1.heap.size, 0, none⟩)]) rfl trivial (enters_of Tryz.func193 (by kernel_rfl) rfl)
    (stops_Fact Fence.wide 7 trivial rfl (by omega) w1.heap.size c A L W0 hz hb.lt (hb.cell 0 rfl) hA2) belowK_t (belowK_b (Nat.le_refl _)) (Below.refl _ _) (fun _ => rfl)
    (fun pre W => (∀ p ∈ pre, hit p.2 key m known = false) ∧ Same W0 W)
    (fun c pre W => (c = .ret ∧ ∃ ini last, pre = ini ++ [last] ∧ (∀ p ∈ ini, hit p.2 key m known = false) ∧ hit last.2 key m known = true ∧ BoxAt W (w.heap.size + 1 + 1 + 1 + 1) 3 [.int .i64 last.2.2.2.2.2] ∧ BoxAt W (w.heap.size + 1 + 1 + 1 + 1 + 1) 4 [.bool true]) ∧ Same w W)
    (OwnFrom.and (ownFrom_pure _ _) (ownFrom_same (Nat.le_refl _)))
    (fun c => OwnFrom.and (Own.from (fun s A B row hs hg hr => by obtain ⟨hc, ini, last, e1, e2, e3, e4, e5⟩ := hs; exact ⟨hc, ini, last, e1, e2, e3, boxAt_own _ _ (fun (_ : Unit) => [.int .i64 last.2.2.2.2.2]) () A B row e4 hg hr, boxAt_own _ _ (fun (_ : Unit) => [.bool true]) () A B row e5 hg hr⟩) _) (ownFrom_same (by omega)))
    ⟨by simp, Same.refl _⟩
    (fun x a' W => ∃ Bx, BoxAt W Bx 140 [.int .i64 x.2.1, .int .i64 x.2.2.1, .int .i64 x.2.2.2.1, .int .i64 x.2.2.2.2.1, .int .i64 x.2.2.2.2.2] ∧ a' = { tmps := #[.agg #[.slice A L.length c], .int .i64 key, .int .i64 m, .int .i64 known, .pointer (some ⟨w.heap.size, 0, none⟩), .pointer (some ⟨w.heap.size + 1, 0, none⟩), .pointer (some ⟨w.heap.size + 1 + 1, 0, none⟩), .pointer (some ⟨w.heap.size + 1 + 1 + 1, 0, none⟩), .pointer (some ⟨w.heap.size + 1 + 1 + 1 + 1, 0, none⟩), .pointer (some ⟨w.heap.size + 1 + 1 + 1 + 1 + 1, 0, none⟩), undef, .pointer (some ⟨Bx, 0, none⟩), .pointer (some ⟨w.heap.size, 0, none⟩), .slice A L.length c, .func (.func 193) #[] #[.pointer (some ⟨w1.heap.size, 0, none⟩)], .int .i64 (x.1 : Int), .agg #[.int .i64 x.2.1, .int .i64 x.2.2.1, .int .i64 x.2.2.2.1, .int .i64 x.2.2.2.2.1, .int .i64 x.2.2.2.2.2], undef, undef, undef, undef, undef, undef, undef, undef, undef, undef, undef, undef, undef, undef, undef, undef, undef, undef, undef, undef, undef, undef, undef, undef], defers := [] })
    (fun x a' _ X Y row hs hg hr => by obtain ⟨Bx, h1, h3⟩ := hs; exact ⟨Bx, boxAt_own Bx _ (fun (_ : Unit) => [.int .i64 x.2.1, .int .i64 x.2.2.1, .int .i64 x.2.2.2.1, .int .i64 x.2.2.2.2.1, .int .i64 x.2.2.2.2.2]) () X Y row h1 hg (fun r e => (hr r e).2), h3⟩)
    ?assign ?body ?done ?stop
  case assign =>
    rintro l pre x W K ⟨hp, hsW⟩ hK
    unfold encFact
    gi_wp2
    exact hK _ _ ((KeepsOthers.alloc _ _).from _) ((Below.refl _ W).alloc hsW.size _) ⟨hp, hsW.alloc _⟩ ⟨W.heap.size, BoxAt.new W _ _, rfl⟩
  case body =>
    rintro l pre x a' W hl ⟨r, hr⟩ ⟨hp, hsW⟩ ⟨Bx, bX, rfl⟩ hlt
    have k1 := (hk1.same hsW).cell 0 rfl
    have k2 := (hk2.same hsW).cell 0 rfl
    have k3 := (hk3.same hsW).cell 0 rfl
    have h2W := h2.same hsW
    have h3W := h3.same hsW
    have v2 := h2W.cell 0 rfl
    have f2 := h2W.frozen 0
    have v3 := h3W.cell 0 rfl
    have f3 := h3W.frozen 0
    have l3 := h3W.lt
    have b0 := bX.cell 0 rfl
    have b1 := bX.cell 1 rfl
    have b2 := bX.cell 2 rfl
    have b3 := bX.cell 3 rfl
    have b4 := bX.cell 4 rfl
    have bL := bX.lt
    have h1' : 1 ≤ 8 - 1 - 1 := by omega
    obtain ⟨j, x0, x1, x2, x3, x4⟩ := x
    dsimp only at *
    have HQ := Lib.hid (show hit (x0, x1, x2, x3, x4) key m known = (x0 == key && decide (x1 ≤ m) && decide (m < x2) && decide (x3 ≤ known)) from rfl)
    by_cases e0 : x0 = key
    · skip
      by_cases e1 : x1 ≤ m
      · skip
        by_cases e2 : m < x2
        · skip
          by_cases e3 : x3 ≤ known
          · skip
            have g0 : (x0 == key) = true := by first | (simp [e0]; done) | (simp; omega)
            have g1 : decide (x1 ≤ m) = true := by first | (simp [e1]; done) | (simp; omega)
            have g2 : decide (m < x2) = true := by first | (simp [e2]; done) | (simp; omega)
            have g3 : decide (x3 ≤ known) = true := by first | (simp [e3]; done) | (simp; omega)
            have HH := Lib.hid (show hit (x0, x1, x2, x3, x4) key m known = true by rw [HQ.out]; simp only [g0, g1, g2, g3]; first | rfl | simp)
            clear HQ e0
            gi_wp2
            exact ⟨((KeepsOthers.setCell _ _ _).trans (KeepsOthers.setCell _ _ _)).from _, ⟨rfl, pre, (j, x0, x1, x2, x3, x4), rfl, hp, HH.out, (h2W.set 0 _).other _ (by omega), (h3W.other _ (by omega)).set 0 _⟩, ((S2.trans hsW).setCell (p := ⟨w.heap.size + 1 + 1 + 1 + 1, 0, none⟩) (show w.heap.size ≤ w.heap.size + 1 + 1 + 1 + 1 by omega) _).setCell (p := ⟨w.heap.size + 1 + 1 + 1 + 1 + 1, 0, none⟩) (show w.heap.size ≤ w.heap.size + 1 + 1 + 1 + 1 + 1 by omega) _⟩
          · skip
            have g0 : (x0 == key) = true := by first | (simp [e0]; done) | (simp; omega)
            have g1 : decide (x1 ≤ m) = true := by first | (simp [e1]; done) | (simp; omega)
            have g2 : decide (m < x2) = true := by first | (simp [e2]; done) | (simp; omega)
            have g3 : decide (x3 ≤ known) = false := by first | (simp [e3]; done) | (simp; omega)
            have HH := Lib.hid (show hit (x0, x1, x2, x3, x4) key m known = false by rw [HQ.out]; simp only [g0, g1, g2, g3]; first | rfl | simp)
            have HI := Lib.hid (show ∀ p ∈ pre ++ [(j, x0, x1, x2, x3, x4)], hit p.2 key m known = false from fun p hp' => (List.mem_append.1 hp').elim (hp p) (fun e => by simp at e; subst e; exact HH.out))
            clear HQ e0
            gi_wp2
            exact ⟨KeepsFrom.refl _ _, Below.refl _ _, by have h := HI.out; first | exact h | exact (by simpa using h), hsW⟩
        · skip
          have g0 : (x0 == key) = true := by first | (simp [e0]; done) | (simp; omega)
          have g1 : decide (x1 ≤ m) = true := by first | (simp [e1]; done) | (simp; omega)
          have g2 : decide (m < x2) = false := by first | (simp [e2]; done) | (simp; omega)
          have HH := Lib.hid (show hit (x0, x1, x2, x3, x4) key m known = false by rw [HQ.out]; simp only [g0, g1, g2]; first | rfl | simp)
          have HI := Lib.hid (show ∀ p ∈ pre ++ [(j, x0, x1, x2, x3, x4)], hit p.2 key m known = false from fun p hp' => (List.mem_append.1 hp').elim (hp p) (fun e => by simp at e; subst e; exact HH.out))
          clear HQ e0
          gi_wp2
          exact ⟨KeepsFrom.refl _ _, Below.refl _ _, by have h := HI.out; first | exact h | exact (by simpa using h), hsW⟩
      · skip
        have g0 : (x0 == key) = true := by first | (simp [e0]; done) | (simp; omega)
        have g1 : decide (x1 ≤ m) = false := by first | (simp [e1]; done) | (simp; omega)
        have HH := Lib.hid (show hit (x0, x1, x2, x3, x4) key m known = false by rw [HQ.out]; simp only [g0, g1]; first | rfl | simp)
        have HI := Lib.hid (show ∀ p ∈ pre ++ [(j, x0, x1, x2, x3, x4)], hit p.2 key m known = false from fun p hp' => (List.mem_append.1 hp').elim (hp p) (fun e => by simp at e; subst e; exact HH.out))
        clear HQ e0
        gi_wp2
        exact ⟨KeepsFrom.refl _ _, Below.refl _ _, by have h := HI.out; first | exact h | exact (by simpa using h), hsW⟩
    · skip
      have g0 : (x0 == key) = false := by first | (simp [e0]; done) | (simp; omega)
      have HH := Lib.hid (show hit (x0, x1, x2, x3, x4) key m known = false by rw [HQ.out]; simp only [g0]; first | rfl | simp)
      have HI := Lib.hid (show ∀ p ∈ pre ++ [(j, x0, x1, x2, x3, x4)], hit p.2 key m known = false from fun p hp' => (List.mem_append.1 hp').elim (hp p) (fun e => by simp at e; subst e; exact HH.out))
      clear HQ e0
      gi_wp2
      exact ⟨KeepsFrom.refl _ _, Below.refl _ _, by have h := HI.out; first | exact h | exact (by simpa using h), hsW⟩
  case done =>
    rintro D ys W hD rfl ⟨hne, hsW⟩ hK
    have h2W := h2.same hsW
    have h3W := h3.same hsW
    have v2 := h2W.cell 0 rfl
    have f2 := h2W.frozen 0
    have v3 := h3W.cell 0 rfl
    have f3 := h3W.frozen 0
    have l3 := h3W.lt
    have HV2 := Lib.hid (valTo_none hne)
    gi_wp2
    have hKs := (KeepsOthers.setCell W ⟨w.heap.size + 1 + 1 + 1 + 1, 0, none⟩ (.int .i64 0)).trans (KeepsOthers.setCell _ ⟨w.heap.size + 1 + 1 + 1 + 1 + 1, 0, none⟩ (.bool false))
    have hK' := hKs.same D _ hK rfl
    refine ⟨by simp, .inl ⟨_, _, rfl, run_takeDeferred hK', ?_⟩⟩
    have h2S := (h2W.set 0 (.int .i64 0)).other (k := w.heap.size + 1 + 1 + 1 + 1 + 1) (j := 0) (.bool false) (by omega)
    have h3S := (h3W.other (k := w.heap.size + 1 + 1 + 1 + 1) (j := 0) (.int .i64 0) (by omega)).set 0 (.bool false)
    have hc5 := cell_kept (h2S.cell 0 rfl) (grownBy_putObj' _ D (.deferred none)) (fun r e => by cases e; exact ⟨_, hK', rfl⟩)
    have hc6 := cell_kept (h3S.cell 0 rfl) (grownBy_putObj' _ D (.deferred none)) (fun r e => by cases e; exact ⟨_, hK', rfl⟩)
    refine ⟨.tuple #[.int .i64 0, .bool false], ?_, by rw [HV2.out], Below.trans (((S2.trans hsW).setCell (p := ⟨w.heap.size + 1 + 1 + 1 + 1, 0, none⟩) (show w.heap.size ≤ w.heap.size + 1 + 1 + 1 + 1 by omega) _).setCell (p := ⟨w.heap.size + 1 + 1 + 1 + 1 + 1, 0, none⟩) (show w.heap.size ≤ w.heap.size + 1 + 1 + 1 + 1 + 1 by omega) _) (belowK_b (w := w) (Nat.le_refl _) _ D _ _ (by omega) hK' rfl rfl)⟩
    simp [results, Tryz.f117, go_sem, hc5, hc6]
  case stop =>
    rintro D c pre W hD ⟨k, hk, rfl⟩ ⟨⟨rfl, ini, last, e1, e2, e3, hcr, hcs⟩, hB⟩ hK
    have HV2 := Lib.hid (valTo_some hk e1 e2 e3)
    gi_wp2
    refine ⟨by simp, .inl ⟨_, _, rfl, run_takeDeferred hK, ?_⟩⟩
    have hc5 := cell_kept (hcr.cell 0 rfl) (grownBy_putObj' _ D (.deferred none)) (fun r e => by cases e; exact ⟨_, hK, rfl⟩)
    have hc6 := cell_kept (hcs.cell 0 rfl) (grownBy_putObj' _ D (.deferred none)) (fun r e => by cases e; exact ⟨_, hK, rfl⟩)
    refine ⟨.tuple #[.int .i64 last.2.2.2.2.2, .bool true], ?_, by rw [HV2.out], Below.trans hB (belowK_b (w := w) (Nat.le_refl _) W D _ _ (by omega) hK rfl rfl)⟩
    simp [results, Tryz.f117, go_sem, hc5, hc6]
end Go.Proofs.YtjfmknhnplefnaaGreat
