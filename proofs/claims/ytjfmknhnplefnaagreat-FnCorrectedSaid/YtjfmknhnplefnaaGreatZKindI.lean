/-
  The month of the last event of a kind (the program's side).
-/
import Derived.Test.YtjfmknhnplefnaaGreatZBack
import Derived.Test.YtjfmknhnplefnaaGreatZEventsOk
import Derived.Test.YtjfmknhnplefnaaGreatZKindAt
namespace Go.Proofs.YtjfmknhnplefnaaGreat
open Go.RowKit Go.Shelf
set_option linter.unusedVariables false
attribute [local go_sem] Oper.semAt_some

theorem kindTo_back {L : List TEvent} {kind : Int} : ∀ k, k ≤ L.length → (∀ p ∈ upto (itemB (0, 0) L) k, p.2.1 ≠ kind) → kindTo L kind L.length = kindTo L kind (L.length - k)
  | 0, _, _ => rfl
  | k + 1, hk, h => by
    rw [kindTo_back k (by omega) (fun p hp => h p (by rw [upto_succ]; exact List.mem_append_left _ hp))]
    obtain ⟨m, hm⟩ : ∃ m, L.length - k = m + 1 := ⟨L.length - k - 1, by omega⟩
    have h1 := h _ (upto_mem (itemB (0, 0) L) (show k < k + 1 by omega))
    unfold itemB at h1
    rw [show L.length - 1 - k = m by omega] at h1
    rw [hm, show L.length - (k + 1) = m by omega]
    show (if (L.getD m (0, 0)).1 = kind then _ else kindTo L kind m) = _
    rw [if_neg h1]
theorem kindTo_none {L : List TEvent} {kind : Int} (h : ∀ p ∈ upto (itemB (0, 0) L) L.length, p.2.1 ≠ kind) : kindTo L kind L.length = -1 := by
  rw [kindTo_back L.length (Nat.le_refl _) h, Nat.sub_self]; rfl
theorem kindTo_some {L : List TEvent} {kind : Int} {k : Nat} {ini : List (Nat × TEvent)} {last : Nat × TEvent} (hk : k ≤ L.length) (he : upto (itemB (0, 0) L) k = ini ++ [last]) (hi : ∀ p ∈ ini, p.2.1 ≠ kind) (hl : last.2.1 = kind) : kindTo L kind L.length = last.2.2 := by
  obtain ⟨j, rfl⟩ : ∃ j, k = j + 1 := by
    cases k with
    | zero => simp [upto] at he
    | succ j => exact ⟨j, rfl⟩
  rw [upto_succ] at he
  obtain ⟨rfl, e5⟩ := List.append_inj' he rfl
  obtain rfl : itemB (0, 0) L j = last := by simpa using e5
  rw [kindTo_back j (by omega) hi]
  obtain ⟨m, hm⟩ : ∃ m, L.length - j = m + 1 := ⟨L.length - j - 1, by omega⟩
  rw [hm]
  unfold itemB at hl ⊢
  rw [show L.length - 1 - j = m by omega] at hl ⊢
  show (if (L.getD m (0, 0)).1 = kind then _ else kindTo L kind m) = _
  rw [if_pos hl]

set_option maxRecDepth 100000 in
set_option maxHeartbeats 4000000 in
theorem iMonthOfKind_any (A : Option Addr) (c : Nat) (L : List TEvent) (kind : Int) (w : World) (hz : L.length ≤ 1048576) (hA : AtEvent w A L) :
    Calls Tryz.prog 61 #[.slice A L.length c, .int .i64 kind] w fun e w' => e = .returned (.int .i64 (monthOfKind L kind)) ∧ Same w w' := by
  have HR := Lib.hid (show monthOfKind L kind = if eventsOk L = true then kindTo L kind L.length else -1 from rfl)
  refine (callsIn_wide (n := 8)).1 ?_
  refine callsIn_of_wp_marks Tryz.func61 rfl trivial ?_ rfl
  simp only [Tryz.ntmps61, List.size_toArray, List.length_cons, List.length_nil, Nat.reduceAdd, Nat.reduceSub, Array.replicate_succ, Array.replicate_zero, List.push_toArray, List.append_toArray, List.nil_append, List.cons_append]
  gi_wp2_with fail
  have h1 : BoxAt ((w.alloc (.cells #[.int .i64 kind] 3)).alloc (.cells #[.int .i64 0] 3)) (w.heap.size) 3 [.int .i64 kind] := by simpa using (BoxAt.alloc (BoxAt.new w 3 [.int .i64 kind]) (.cells #[.int .i64 0] 3))
  have h2 : BoxAt ((w.alloc (.cells #[.int .i64 kind] 3)).alloc (.cells #[.int .i64 0] 3)) (w.heap.size + 1) 3 [.int .i64 0] := by simpa using (BoxAt.new (w.alloc (.cells #[.int .i64 kind] 3)) 3 [.int .i64 0])
  have hs0 := (Same.alloc (Same.alloc (Same.refl w) (.cells #[.int .i64 kind] 3)) (.cells #[.int .i64 0] 3))
  have nw0 : (((w.alloc (.cells #[.int .i64 kind] 3)).alloc (.cells #[.int .i64 0] 3))).heap.size = w.heap.size + 2 := by simp
  generalize ((w.alloc (.cells #[.int .i64 kind] 3)).alloc (.cells #[.int .i64 0] 3)) = w0 at *
  refine ⟨trivial, (callsIn_wide.2 (iEventsOk_any A c L _ hz (hA.same hs0))).mono ?_⟩
  rintro e w1 ⟨rfl, hs1⟩
  replace h1 := h1.same hs1
  replace h2 := h2.same hs1
  have S1 := hs0.trans hs1
  have n1 := hs1.size
  cases hk : eventsOk L
  · have HV := Lib.hid (show monthOfKind L kind = -1 by rw [HR.out, hk]; rfl)
    have x0 := h2.cell 0 rfl
    have xf := h2.frozen 0
    clear hk HR
    gi_wp2
    have h3 := h2.set 0 (.int .i64 (-1))
    have S3 := S1.setCell (p := ⟨w.heap.size + 1, 0, none⟩) (show w.heap.size ≤ w.heap.size + 1 by omega) (.int .i64 (-1))
    generalize w1.setCell ⟨w.heap.size + 1, 0, none⟩ (.int .i64 (-1)) = w3 at *
    have z0 := h3.cell 0 rfl
    exact ⟨.int .i64 (-1), by simp [results, Tryz.f61, go_sem, z0], by rw [HV.out], S3⟩
  · have HV := Lib.hid (show monthOfKind L kind = kindTo L kind L.length by rw [HR.out, hk]; rfl)
    clear hk HR
    gi_wp2_with fail
    refine ⟨trivial, (back_Event Fence.wide 7 trivial rfl A L.length c w1).mono ?_⟩
    rintro e w2 ⟨rfl, rfl⟩
    have hb := BoxAt.new w1 34 [.slice A L.length c]
    have hsw := (Same.refl w1).alloc (.cells #[.slice A L.length c] 34)
    replace h1 := h1.same hsw
    replace h2 := h2.same hsw
    have S2 := S1.trans hsw
    have hA2 := hA.same S2
    have nW : w1.heap.size < (w1.alloc (.cells #[.slice A L.length c] 34)).heap.size := hb.lt
    have nw : w.heap.size ≤ w1.heap.size := S1.size
    clear hs1 hs0 S1 hsw
    gi_wp2_with fail
    generalize w1.alloc (.cells #[.slice A L.length c] 34) = W0 at *
    refine wpIn_rangeFunc_ownH rfl (by omega) (gf := 168) (lb := #[.pointer (some ⟨w1.heap.size, 0, none⟩)]) rfl trivial (enters_of Tryz.func168 (by kernel_rfl) rfl)
      (stops_Event Fence.wide 7 trivial rfl (by omega) w1.heap.size c A L W0 hz hb.lt (hb.cell 0 rfl) hA2) belowK_t (belowK_b (Nat.le_refl _)) (Below.refl _ _) (fun _ => rfl)
      (fun pre W => (∀ p ∈ pre, p.2.1 ≠ kind) ∧ Same W0 W)
      (fun c pre W => (c = .ret ∧ ∃ ini last, pre = ini ++ [last] ∧ (∀ p ∈ ini, p.2.1 ≠ kind) ∧ last.2.1 = kind ∧ BoxAt W (w.heap.size + 1) 3 [.int .i64 last.2.2]) ∧ Same w W)
      (OwnFrom.and (ownFrom_pure _ _) (ownFrom_same (Nat.le_refl _)))
      (fun c => OwnFrom.and (Own.from (fun s A B row hs hg hr => by obtain ⟨hc, ini, last, e1, e2, e3, e4⟩ := hs; exact ⟨hc, ini, last, e1, e2, e3, boxAt_own _ _ (fun (_ : Unit) => [.int .i64 last.2.2]) () A B row e4 hg hr⟩) _) (ownFrom_same (by omega)))
      ⟨by simp, Same.refl _⟩
      (fun x a' W => ∃ Bx, BoxAt W Bx 95 [.int .i64 x.2.1, .int .i64 x.2.2] ∧ a' = { tmps := #[.slice A L.length c, .int .i64 kind, undef, .pointer (some ⟨w.heap.size, 0, none⟩), .pointer (some ⟨w.heap.size + 1, 0, none⟩), undef, .pointer (some ⟨Bx, 0, none⟩), .slice A L.length c, .bool true, .bool false, .slice A L.length c, .func (.func 168) #[] #[.pointer (some ⟨w1.heap.size, 0, none⟩)], .int .i64 (x.1 : Int), .agg #[.int .i64 x.2.1, .int .i64 x.2.2], undef, undef, undef, undef, undef, undef], defers := [] })
      (fun x a' _ X Y row hs hg hr => by obtain ⟨Bx, h1, h3⟩ := hs; exact ⟨Bx, boxAt_own Bx _ (fun (_ : Unit) => [.int .i64 x.2.1, .int .i64 x.2.2]) () X Y row h1 hg (fun r e => (hr r e).2), h3⟩)
      ?assign ?body ?done ?stop
    case assign =>
      rintro l pre x W K ⟨hp, hsW⟩ hK
      unfold encEvent
      gi_wp2
      exact hK _ _ ((KeepsOthers.alloc _ _).from _) ((Below.refl _ W).alloc hsW.size _) ⟨hp, hsW.alloc _⟩ ⟨W.heap.size, BoxAt.new W _ _, rfl⟩
    case body =>
      rintro l pre x a' W hl ⟨r, hr⟩ ⟨hp, hsW⟩ ⟨Bx, bX, rfl⟩ hlt
      have k1 := (h1.same hsW).cell 0 rfl
      have h2W := h2.same hsW
      have k2 := h2W.cell 0 rfl
      have kf := h2W.frozen 0
      have b0 := bX.cell 0 rfl
      have b1 := bX.cell 1 rfl
      have bL := bX.lt
      have h1' : 1 ≤ 8 - 1 - 1 := by omega
      by_cases hx : x.2.1 = kind
      · have gx : (x.2.1 == kind) = true := by simp [hx]
        have HX := Lib.hid hx
        clear hx
        gi_wp2
        exact ⟨(KeepsOthers.setCell _ _ _).from _, ⟨rfl, pre, x, rfl, hp, HX.out, h2W.set 0 _⟩, (S2.trans hsW).setCell (p := ⟨w.heap.size + 1, 0, none⟩) (show w.heap.size ≤ w.heap.size + 1 by omega) _⟩
      · have gx : (x.2.1 == kind) = false := by simp [hx]
        have HX := Lib.hid hx
        clear hx
        gi_wp2
        exact ⟨KeepsFrom.refl _ _, Below.refl _ _, fun p hp' => (List.mem_append.1 hp').elim (hp p) (fun e => by simp at e; subst e; exact HX.out), hsW⟩
    case done =>
      rintro D ys W hD rfl ⟨hne, hsW⟩ hK
      have h2W := h2.same hsW
      have k2 := h2W.cell 0 rfl
      have kf := h2W.frozen 0
      have HV2 := Lib.hid (show monthOfKind L kind = -1 by rw [HV.out]; exact kindTo_none hne)
      gi_wp2
      have hK' := (KeepsOthers.setCell W ⟨w.heap.size + 1, 0, none⟩ (.int .i64 (-1))).same D _ hK rfl
      refine ⟨by simp, .inl ⟨_, _, rfl, run_takeDeferred hK', ?_⟩⟩
      have hc5 := cell_kept ((h2W.set 0 (.int .i64 (-1))).cell 0 rfl) (grownBy_putObj' _ D (.deferred none)) (fun r e => by cases e; exact ⟨_, hK', rfl⟩)
      refine ⟨.int .i64 (-1), ?_, by rw [HV2.out], Below.trans ((S2.trans hsW).setCell (p := ⟨w.heap.size + 1, 0, none⟩) (show w.heap.size ≤ w.heap.size + 1 by omega) _) (belowK_b (w := w) (Nat.le_refl _) _ D _ _ (by omega) hK' rfl rfl)⟩
      simp [results, Tryz.f61, go_sem, hc5]
    case stop =>
      rintro D c pre W hD ⟨k, hk, rfl⟩ ⟨⟨rfl, ini, last, e1, e2, e3, hcr⟩, hB⟩ hK
      have HV2 := Lib.hid (show monthOfKind L kind = last.2.2 by rw [HV.out]; exact kindTo_some hk e1 e2 e3)
      gi_wp2
      refine ⟨by simp, .inl ⟨_, _, rfl, run_takeDeferred hK, ?_⟩⟩
      have hc5 := cell_kept (hcr.cell 0 rfl) (grownBy_putObj' _ D (.deferred none)) (fun r e => by cases e; exact ⟨_, hK, rfl⟩)
      refine ⟨.int .i64 last.2.2, ?_, by rw [HV2.out], Below.trans hB (belowK_b (w := w) (Nat.le_refl _) W D _ _ (by omega) hK rfl rfl)⟩
      simp [results, Tryz.f61, go_sem, hc5]
end Go.Proofs.YtjfmknhnplefnaaGreat
