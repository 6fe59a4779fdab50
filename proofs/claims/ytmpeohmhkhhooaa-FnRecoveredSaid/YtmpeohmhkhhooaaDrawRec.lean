/-
  The debts, amounts and percentages that are drawn.
-/
import Derived.Test.YtmpeohmhkhhooaaDraw
import Derived.Test.YtmpeohmhkhhooaaRecPlain
namespace Go.Proofs.Ytmpeohmhkhhooaa
open Go.RowKit

/-- What is drawn. -/
def ValidRec (debt : Int) (zs : List Int) (pct : Int) : Prop := (0 ≤ debt ∧ debt ≤ 29970) ∧ (zs.length ≤ 11 ∧ ∀ x ∈ zs, 0 ≤ x ∧ x ≤ 29990) ∧ 0 ≤ pct ∧ pct ≤ 100
theorem ValidRec.ok {debt pct : Int} {zs : List Int} (h : ValidRec debt zs pct) : recOk debt zs pct = true := by
  obtain ⟨h1, ⟨h2, h3⟩, h4⟩ := h
  simp only [recOk, Bool.and_eq_true, decide_eq_true_eq]
  exact ⟨⟨⟨List.all_eq_true.2 fun x hx => inB_iff.2 (by have := h3 x hx; omega), inB_iff.2 (by omega)⟩, inB_iff.2 h4⟩, by omega⟩

set_option maxHeartbeats 1000000 in
theorem l24Case_any (g : Nat) (w : World) (hc0 : Cur w g) : Calls Try.prog 44 #[.pointer (some ⟨g, 0, none⟩)] w fun e w' =>
    ∃ (d : Int) (zs : List Int) (p : Int) (ad : Addr) (c : Nat), e = .returned (.tuple #[.int .i64 d, .slice (some ad) zs.length c, .int .i64 p]) ∧ ValidRec d zs p ∧ OwnI w' w.heap.size (.slice (some ad) zs.length c) zs ∧ Upd g (g + 1) w w' := by
  have hg0 := hc0.lt
  have he := OwnI.empty w (Nat.le_refl _)
  go_enter Try.func44, Try.ntmps44
  go_wp2
  go_loopw [5, 6] (fun o i wr => ∃ (k : Nat) (zs : List Int), k ≤ 11 ∧ i = .int .i64 k ∧ Hid (zs.length = k) ∧ Hid (∀ x ∈ zs, 0 ≤ x ∧ x ≤ 29990) ∧ Hid (zs = [] → ∃ ad n c, o = .slice (some ad) n c) ∧ OwnI wr w.heap.size o zs ∧ Cur wr g ∧ Upd g (g + 1) w wr ∧ w.heap.size ≤ wr.heap.size) (fun _ i _ => 11 - (intOf i).toNat)
  case atStart => exact ⟨0, [], by omega, rfl, rfl, by simp [Hid], fun _ => ⟨_, _, _, rfl⟩, he, hc0.same ((Same.refl _).alloc _), ((Same.refl w).alloc _).upd _ _, by simp⟩
  case round =>
    obtain ⟨k, zs, hk, rfl, hl, hz, hne, hown, hc, hu, hw⟩ := hrel
    have hl' : zs.length ≤ 1000000000 := by have := hl.out; omega
    clear he
    go_wp2_with fail
    refine (l01Below_any g 12 _ (by omega) (by omega) hc).mono ?_
    rintro e w2 ⟨q, rfl, hq0, hq1, hc2, hu2⟩
    replace hown := hown.upd hu2 hown.zn (.inr (by omega))
    have hU2 := hu.trans hu2
    have hw2 := hu2.size
    clear hu2 hu hc
    by_cases hlt : (k : Int) < q
    · go_wp2_with fail
      refine (l01Below_any g 3000 _ (by omega) (by omega) hc2).mono ?_
      rintro e w3 ⟨a, rfl, ha0, ha1, hc3, hu3⟩
      replace hown := hown.upd hu3 hown.zn (.inr (by omega))
      have hU3 := hU2.trans hu3
      have hw3 := hu3.size
      clear hu3 hU2 hc2
      go_wp2_with (at_builtin; refine appI _ rfl (.tmp 14) (.tmp 18) rfl w.heap.size _ _ rfl (OwnI.alloc hown _) w3.heap.size 1 (a * 10) rfl (by simp) hl' (by simp; omega) ?_)
      intro v' w4 ho4 hup
      have hU4 := (hU3.trans (((Same.refl w3).alloc _).upd _ _)).trans' hup (Nat.le_refl _)
      have hc4 := (hc3.same ((Same.refl _).alloc _)).upd hup hg0
      have hw4 := hup.size
      simp only [World.size_alloc] at hw4
      clear hup hU3 hc3
      go_wp2
      go_roundw
      case rel =>
        refine ⟨k + 1, _, by omega, by go_num, by have := hl.out; show List.length _ = _; simp [this], ?_, fun e => absurd e (by simp), ho4, hc4, hU4, by omega⟩
        intro x hx
        rcases List.mem_append.1 hx with h | h
        · exact hz.out x h
        · simp at h; omega
      case measure => simp [intOf]; omega
    · go_wp2_with fail
      refine (l01Below_any g 1000 _ (by omega) (by omega) hc2).mono ?_
      rintro e w3 ⟨a, rfl, ha0, ha1, hc3, hu3⟩
      replace hown := hown.upd hu3 hown.zn (.inr (by omega))
      have hU3 := hU2.trans hu3
      have hw3 := hu3.size
      clear hu3 hU2 hc2
      go_wp2_with fail
      refine (pickInt_any g w3.heap.size [0, 10, 20, 33, 50, 100] _ (by simp) (by simp) (by omega) (by simp) ?_ (hc3.same ((Same.refl _).alloc _))).mono ?_
      · intro j x hj
        match j, hj with
        | 0, hj => simp at hj; subst hj; simp
        | 1, hj => simp at hj; subst hj; simp
        | 2, hj => simp at hj; subst hj; simp
        | 3, hj => simp at hj; subst hj; simp
        | 4, hj => simp at hj; subst hj; simp
        | 5, hj => simp at hj; subst hj; simp
        | j + 6, hj => simp at hj
      rintro e w4 ⟨r, rfl, hr, hc4, hu4⟩
      have hr' : 0 ≤ r ∧ r ≤ 100 := by simp at hr; omega
      have hown4 := (hown.alloc (.cells #[.int .i64 0, .int .i64 10, .int .i64 20, .int .i64 33, .int .i64 50, .int .i64 100] 3)).upd hu4 (hown.alloc (.cells #[.int .i64 0, .int .i64 10, .int .i64 20, .int .i64 33, .int .i64 50, .int .i64 100] 3)).zn (.inr (by omega))
      have hU4 := (hU3.trans (((Same.refl w3).alloc _).upd _ _)).trans hu4
      clear hr hu4 hU3 hc3 hown
      obtain ⟨A, c, rfl⟩ := hown4.form
      obtain ⟨ad, rfl⟩ : ∃ ad, A = some ad := by
        rcases zs with _ | ⟨z, zs⟩
        · obtain ⟨ad, _, _, e⟩ := hne.out rfl
          injection e with e
          exact ⟨ad, e⟩
        · obtain ⟨b, off, x, rfl, _⟩ := hown4.ints.at_ (k := 0) (by simp)
          exact ⟨_, rfl⟩
      go_wp2
      go_ret3
      exact ⟨a * 30, zs, r, ad, c, rfl, ⟨by omega, ⟨by rw [hl.out]; omega, hz.out⟩, hr'⟩, hown4, hU4⟩

set_option maxHeartbeats 400000 in
theorem drawRecovery_any (A : Option Addr) (n c : Nat) (w : World) (hn : n ≤ 1048576) (hA : BytesAt w w.heap.size A n) : Calls Try.prog 31 #[.slice A n c] w fun e w' =>
    ∃ (d : Int) (zs : List Int) (p : Int) (B : Addr) (f : Nat), e = .returned (.tuple #[.int .i64 d, .slice (some B) zs.length f, .int .i64 p]) ∧ ValidRec d zs p ∧ OwnI w' w.heap.size (.slice (some B) zs.length f) zs ∧ Same w w' := by
  go_enter Try.func31, Try.ntmps31
  go_wp2_with fail
  refine (l01New_any A n c _ hn hA).mono ?_
  rintro e w1 ⟨g, rfl, hg0, hc1, hs1⟩
  have hsz := hs1.size
  go_wp2_with fail
  refine (l24Case_any g _ hc1).mono ?_
  rintro e w2 ⟨d, zs, p, B, f, rfl, hp, ho, hu⟩
  go_wp2
  go_ret3
  exact ⟨d, zs, p, B, f, rfl, hp, ho.base hsz, hs1.upds hu hg0⟩
end Go.Proofs.Ytmpeohmhkhhooaa
