/-
  FnBalanced: for every list of bytes the balances of all accounts add up to 0, also after a reversal, which restores them. No condition.
-/
import Derived.Test.YthelclibokkdnaaLawAnyOrder
import Derived.BigRegion
import Derived.Deep.RegionLaw
import Derived.Deep.Cut
import Derived.Deep.CutRange
namespace Go.Proofs.Ythelclibokkdnaa
open Go.RowKit
set_option linter.unusedVariables false

def nineTo (f : Int → Int) : Int := f 1 + f 2 + f 3 + f 4 + f 5 + f 6 + f 7 + f 8 + f 9
theorem nine_pick {d z : Int} (h : 1 ≤ d ∧ d ≤ 9) : nineTo (fun a => if d = a then z else 0) = z := by
  have : d = 1 ∨ d = 2 ∨ d = 3 ∨ d = 4 ∨ d = 5 ∨ d = 6 ∨ d = 7 ∨ d = 8 ∨ d = 9 := by omega
  rcases this with rfl | rfl | rfl | rfl | rfl | rfl | rfl | rfl | rfl <;> simp [nineTo]
theorem nine_post {p : TPosting} {m : Int} (h : postingOk p = true) : nineTo (fun a => postAt a m p) = 0 := by
  obtain ⟨m', d, c, z⟩ := p
  obtain ⟨_, h1, h2, _⟩ := postingOk_iff.1 h
  by_cases hm : m < m'
  · simp [nineTo, postAt, hm]
  · have e1 := nine_pick (z := z) h1
    have e2 := nine_pick (z := z) h2
    simp only [nineTo] at e1 e2
    simp only [nineTo, postAt, hm, if_false]
    omega
theorem nine_all {m : Int} : ∀ {L : List TPosting}, L.all postingOk = true → nineTo (fun a => (L.map (postAt a m)).sum) = 0
  | [], _ => by simp [nineTo]
  | p :: L, h => by
    rw [List.all_cons, Bool.and_eq_true] at h
    have h1 := nine_post (m := m) h.1
    have h2 := nine_all (m := m) h.2
    simp only [nineTo] at h1 h2
    simp only [nineTo, List.map_cons, List.sum_cons]
    omega
theorem trial_sum {L : List TPosting} {m : Int} (h : ledgerOk L = true) : (trial L m).sum = 0 := by
  have h1 := nine_all (m := m) (show L.all postingOk = true by rw [ledgerOk, Bool.and_eq_true] at h; exact h.2)
  simp only [nineTo] at h1
  rw [trial_yes h]
  have e : trialTo L m 9 = [balance L 1 m, balance L 2 m, balance L 3 m, balance L 4 m, balance L 5 m, balance L 6 m, balance L 7 m, balance L 8 m, balance L 9 m] := rfl
  rw [e]
  simp only [List.sum_cons, List.sum_nil, balance, if_pos h, balTo_full]
  omega
theorem trial_at {L : List TPosting} {m : Int} {k : Nat} {y : Int} (h : ledgerOk L = true) (hy : (trial L m)[k]? = some y) : y = balance L ((k : Int) + 1) m := by
  rw [trial_yes h, trialTo, List.getElem?_map] at hy
  have hk : k < 9 := by
    rcases Nat.lt_or_ge k 9 with hk | hk
    · exact hk
    · rw [List.getElem?_eq_none (by simpa using hk)] at hy
      cases hy
  rw [List.getElem?_range hk] at hy
  simpa using hy.symm
theorem ok_push {L : List TPosting} {p : TPosting} (h : ledgerOk L = true) (hl : L.length ≤ 200) (hp : postingOk p = true) : ledgerOk (L ++ [p]) = true := by
  rw [ledgerOk, Bool.and_eq_true, decide_eq_true_eq] at h ⊢
  refine ⟨by simp; omega, ?_⟩
  rw [List.all_append, h.2]
  simp [hp]
theorem post_ok {L : List TPosting} {p : TPosting} (h : ledgerOk L = true) (hl : L.length ≤ 200) (hp : postingOk p = true) : postOk L p = true ∧ postL L p = L ++ [p] := by
  have h1 : postOk L p = true := by rw [postOk, h, ok_push h hl hp]; rfl
  exact ⟨h1, by rw [postL, h1]; rfl⟩
theorem back_ok {m d c z : Int} (h : postingOk (m, d, c, z) = true) : postingOk (m, c, d, z) = true := by
  rw [postingOk_iff] at h ⊢
  obtain ⟨h1, h2, h3, h4, h5⟩ := h
  exact ⟨h1, h3, h2, fun e => h4 e.symm, h5⟩
theorem balance_back {L : List TPosting} {m d c z a m' : Int} (h : ledgerOk L = true) (hl : L.length ≤ 100) (hp : postingOk (m, d, c, z) = true) : balance (L ++ [(m, d, c, z)] ++ [(m, c, d, z)]) a m' = balance L a m' := by
  have h1 := ok_push h (by omega) hp
  have h2 := ok_push h1 (by simp; omega) (back_ok hp)
  rw [balance, balance, if_pos h, if_pos h2, balTo_full, balTo_full]
  simp only [List.map_append, List.sum_append, List.map_cons, List.map_nil, List.sum_cons, List.sum_nil, postAt]
  split <;> omega
theorem trial_back {L : List TPosting} {m d c z m' : Int} (h : ledgerOk L = true) (hl : L.length ≤ 100) (hp : postingOk (m, d, c, z) = true) : trial (L ++ [(m, d, c, z)] ++ [(m, c, d, z)]) m' = trial L m' := by
  have h1 := ok_push h (by omega) hp
  have h2 := ok_push h1 (by simp; omega) (back_ok hp)
  rw [trial_yes h, trial_yes h2, trialTo, trialTo]
  simp only [balance_back h hl hp]
theorem take_sum {T : List Int} {k : Nat} {y : Int} (h : T[k]? = some y) : (T.take (k + 1)).sum = (T.take k).sum + y := by
  rw [List.take_add_one, h, List.sum_append]
  simp
theorem take_range {T : List Int} (h : ∀ y ∈ T, -300000000000 ≤ y ∧ y ≤ 300000000000) : ∀ k, k ≤ T.length → -(300000000000 * (k : Int)) ≤ (T.take k).sum ∧ (T.take k).sum ≤ 300000000000 * (k : Int)
  | 0, _ => by simp
  | k + 1, hk => by
    obtain ⟨y, hy⟩ : ∃ y, T[k]? = some y := ⟨_, List.getElem?_eq_getElem (by omega)⟩
    have h1 := take_range h k (by omega)
    have h2 := h y (List.mem_of_getElem? hy)
    rw [take_sum hy]
    omega
theorem trial_range (L : List TPosting) (m : Int) : ∀ y ∈ trial L m, -300000000000 ≤ y ∧ y ≤ 300000000000 := by
  intro y hy
  unfold trial at hy
  split at hy
  · obtain ⟨j, _, rfl⟩ := List.mem_map.1 hy
    exact balance_range _ _ _
  · cases hy

set_option maxRecDepth 100000 in
set_option maxHeartbeats 4000000 in
theorem lawBalanced (A : Option Addr) (n c : Nat) (w : World) (hn : n ≤ 9223372036854775807) (hA : BytesAt w w.heap.size A n) :
    Calls Try.prog 9 #[.slice A n c] w fun e w' => e = .returned (.bool true) ∧ Same w w' := by
  by_cases hbig : n ≤ 1048576
  · go_enter Try.func9, Try.ntmps9
    go_wp2_with fail
    refine (big_no A n c _ hbig).mono ?_
    rintro e w0 ⟨rfl, rfl⟩
    go_wp2_with fail
    refine (drawLedger_any A n c _ hbig hA).mono ?_
    rintro e w1 ⟨L, A1, c1, rfl, hl, sm, ho1, hs1⟩
    have hb := BoxAt.new w1 38 [.slice A1 L.length c1]
    have al := (Same.refl w1).alloc (.cells #[.slice A1 L.length c1] 38)
    replace ho1 := ho1.same al
    have S1 := hs1.trans al
    clear hs1
    go_wp2_with fail
    generalize w1.alloc (.cells #[.slice A1 L.length c1] 38) = w2 at *
    generalize w1.heap.size = g3 at *
    refine (drawPlaces_any A n c _ hbig (hA.keep' S1)).mono ?_
    rintro e w3 ⟨ps, D, g0, rfl, hpl, ho3, hs3⟩
    obtain ⟨p0, hp0, pl0, ph0⟩ := hpl.get (k := 0) (by omega)
    obtain ⟨p1, hp1, pl1, ph1⟩ := hpl.get (k := 1) (by omega)
    obtain ⟨p2, hp2, pl2, ph2⟩ := hpl.get (k := 2) (by omega)
    obtain ⟨p3, hp3, pl3, ph3⟩ := hpl.get (k := 3) (by omega)
    obtain ⟨p4, hp4, pl4, ph4⟩ := hpl.get (k := 4) (by omega)
    obtain ⟨h, rfl, _, hgl, _⟩ := ho3.at_ hp0
    have ca0 := ho3.cell hp0
    have ca1 := ho3.cell hp1
    have ca2 := ho3.cell hp2
    have ca3 := ho3.cell hp3
    have ca4 := ho3.cell hp4
    have hl12 : (12 : Int) ≤ (ps.length : Int) := by have := hpl.1; omega
    replace hb := hb.same hs3
    have S3 := S1.trans hs3
    have hR : AtPosting w3 A1 L := (OwnR.recs cPosting_len ho1).same hs3
    have hok := sm.ok (by omega)
    have HOK := Lib.hid hok
    clear hp0 hp1 hp2 hp3 hp4 hpl ho3 hs3 al ho1 S1 hok sm
    obtain ⟨x, hx⟩ : ∃ x, x = p0 % 70 := ⟨_, rfl⟩
    have HX := Lib.hid hx
    obtain ⟨T, hT⟩ : ∃ T, T = trial L x := ⟨_, rfl⟩
    have HT := Lib.hid hT
    have hT9 : T.length = 9 := by rw [hT, trial_yes HOK.out, trialTo_length]
    have HT9 := Lib.hid hT9
    clear hx hT hT9
    have b0 := hb.cell 0 rfl
    go_wp2_with fail
    rw [← HX.out]
    refine (iTrial_any A1 c1 L x _ (by omega) hR).mono ?_
    rw [← HT.out]
    rintro e w4 ⟨B, d, rfl, hoT, hs4⟩
    replace hb := hb.same hs4
    have S4 := S3.trans hs4
    replace hR := hR.same hs4
    replace ca0 := (hs4.cell (p := ⟨h, 0, none⟩) hgl).trans ca0
    replace ca1 := (hs4.cell (p := ⟨h, 1, none⟩) hgl).trans ca1
    replace ca2 := (hs4.cell (p := ⟨h, 2, none⟩) hgl).trans ca2
    replace ca3 := (hs4.cell (p := ⟨h, 3, none⟩) hgl).trans ca3
    replace ca4 := (hs4.cell (p := ⟨h, 4, none⟩) hgl).trans ca4
    have hgl4 := Nat.lt_of_lt_of_le hgl hs4.size
    have iT := OwnI.ints hoT
    clear b0 hs4 hoT S3
    go_wp2
    go_loopw [7, 8] (fun t7 t8 wr => ∃ k : Nat, k ≤ 9 ∧ t8 = .int .i64 k ∧ t7 = .int .i64 (T.take k).sum ∧ Same w4 wr) (fun _ t8 _ => 9 - (intOf t8).toNat)
    case atStart => exact ⟨0, by omega, rfl, rfl, Same.refl _⟩
    case round =>
      obtain ⟨k, hk, rfl, rfl, hs⟩ := hrel
      have hbr := hb.same hs
      have b0 := hbr.cell 0 rfl
      have hr := take_range (T := T) (by rw [HT.out]; exact trial_range L x) k (by have := HT9.out; omega)
      obtain ⟨s, hs'⟩ : ∃ s, s = (T.take k).sum := ⟨_, rfl⟩
      rw [← hs'] at hr ⊢
      have HSS := Lib.hid hs'
      clear hs'
      by_cases hlt : k < 9
      · obtain ⟨b, off, y, rfl, hc, HY, hbl⟩ := (iT.same hs).at_ (k := k) (by have := HT9.out; omega)
        have hy : y = balance L ((k : Int) + 1) x := trial_at HOK.out (by rw [← HT.out]; exact HY.out)
        have hyr : -300000000000 ≤ y ∧ y ≤ 300000000000 := by rw [hy]; exact balance_range _ _ _
        have HNX := Lib.hid (show s + y = (T.take (k + 1)).sum by rw [take_sum HY.out, ← HSS.out])
        have q0 : (0 : Int) ≤ (k : Int) := by omega
        have q1 : (k : Int) < (T.length : Int) := by have := HT9.out; omega
        have HI := Lib.hid (fun (w' : World) (hw' : Same wr w') => show Calls Try.prog 33 #[.agg #[.slice A1 L.length c1], .int .i64 ((k : Int) + 1), .int .i64 x] w' (fun e w'' => e = .returned (.int .i64 y) ∧ Same w' w'') by
          have := iBal_any A1 c1 L ((k : Int) + 1) x w' (by omega) ((hR.same hs).same hw')
          rw [hy]
          exact this)
        have HK := Lib.hid (fun (w' : World) (hw' : Same wr w') => show Same wr w' ∧ w'.cell? ⟨g3, 0, none⟩ = some (.slice A1 L.length c1) ∧ w'.cell? ⟨b, off + k, none⟩ = some (.int .i64 y) from ⟨hw', (hbr.same hw').cell 0 rfl, (hw'.cell hbl).trans hc⟩)
        have kw : IntKind.i64.wrap ((k : Int) + 1) = (k : Int) + 1 := IntWalk.i64_in _ (by omega)
        have hyy : (y != y) = false := by simp
        clear hy
        go_wp2
        go_region_held3 (fun w' => Same wr w' ∧ w'.cell? ⟨g3, 0, none⟩ = some (.slice A1 L.length c1) ∧ w'.cell? ⟨b, off + k, none⟩ = some (.int .i64 y))
          (first | exact HK.out _ (Same.refl _).drew | (go_split_ands; exact HK.out _ (Same.trans (by assumption) hs7)))
          ((go_split_ands; go_at_call 33; refine (HI.out _ (by assumption)).mono ?_; rintro e w7 ⟨rfl, hs7⟩))
        all_goals
          clear kw
          go_split_ands
          have S7 := hs.trans (show Same wr _ by assumption)
          go_wp2
          go_roundw
          case rel => exact ⟨k + 1, hlt, by go_num, by rw [HNX.out], S7⟩
          case measure => simp [intOf]; omega
      · obtain rfl : k = 9 := by omega
        have hs0 : s = 0 := by rw [HSS.out, List.take_of_length_le (by have := HT9.out; omega), HT.out]; exact trial_sum HOK.out
        subst hs0
        have cr1 := (hs.cell (p := ⟨h, 1, none⟩) hgl4).trans ca1
        have cr2 := (hs.cell (p := ⟨h, 2, none⟩) hgl4).trans ca2
        have cr3 := (hs.cell (p := ⟨h, 3, none⟩) hgl4).trans ca3
        have cr4 := (hs.cell (p := ⟨h, 4, none⟩) hgl4).trans ca4
        have cr1 := (hs.cell (p := ⟨h, 1, none⟩) hgl4).trans ca1
        have cr2 := (hs.cell (p := ⟨h, 2, none⟩) hgl4).trans ca2
        have cr3 := (hs.cell (p := ⟨h, 3, none⟩) hgl4).trans ca3
        have cr4 := (hs.cell (p := ⟨h, 4, none⟩) hgl4).trans ca4
        obtain ⟨q1, e1⟩ : ∃ q, Int.tmod p1 60 = q := ⟨_, rfl⟩
        obtain ⟨r2, e2⟩ : ∃ q, Int.tmod p2 4 = q := ⟨_, rfl⟩
        obtain ⟨r3, e3⟩ : ∃ q, Int.tmod p3 5 = q := ⟨_, rfl⟩
        have e1' : q1 = p1 % 60 := by rw [← e1]; exact Int.tmod_eq_emod_of_nonneg (by omega)
        have e2' : r2 = p2 % 4 := by rw [← e2]; exact Int.tmod_eq_emod_of_nonneg (by omega)
        have e3' : r3 = p3 % 5 := by rw [← e3]; exact Int.tmod_eq_emod_of_nonneg (by omega)
        obtain ⟨q2, k2⟩ : ∃ q, IntKind.i64.wrap (1 + r2) = q := ⟨_, rfl⟩
        have k2' : q2 = 1 + r2 := by rw [← k2]; exact IntWalk.i64_in _ (by omega)
        obtain ⟨q3, k3⟩ : ∃ q, IntKind.i64.wrap (5 + r3) = q := ⟨_, rfl⟩
        have k3' : q3 = 5 + r3 := by rw [← k3]; exact IntWalk.i64_in _ (by omega)
        obtain ⟨q4, k4⟩ : ∃ q, IntKind.i64.wrap (1 + p4) = q := ⟨_, rfl⟩
        have k4' : q4 = 1 + p4 := by rw [← k4]; exact IntWalk.i64_in _ (by omega)
        have hq1 : 0 ≤ q1 ∧ q1 < 60 := by omega
        have hq : postingOk (q1, q2, q3, q4) = true := postingOk_iff.2 ⟨⟨by omega, by omega⟩, ⟨by omega, by omega⟩, ⟨by omega, by omega⟩, by omega, by omega, by omega⟩
        have HQ := Lib.hid hq
        clear e1' e2' e3' k2' k3' k4' hq
        have dr1 := (((Same.refl wr).alloc (.cells #[.int .i64 0, .int .i64 0, .int .i64 0, .int .i64 0] 25)).cell (p := ⟨h, 1, none⟩) (Nat.lt_of_lt_of_le hgl4 hs.size)).trans cr1
        have dr2 := (((Same.refl wr).alloc (.cells #[.int .i64 0, .int .i64 0, .int .i64 0, .int .i64 0] 25)).cell (p := ⟨h, 2, none⟩) (Nat.lt_of_lt_of_le hgl4 hs.size)).trans cr2
        have dr3 := (((Same.refl wr).alloc (.cells #[.int .i64 0, .int .i64 0, .int .i64 0, .int .i64 0] 25)).cell (p := ⟨h, 3, none⟩) (Nat.lt_of_lt_of_le hgl4 hs.size)).trans cr3
        have dr4 := (((Same.refl wr).alloc (.cells #[.int .i64 0, .int .i64 0, .int .i64 0, .int .i64 0] 25)).cell (p := ⟨h, 4, none⟩) (Nat.lt_of_lt_of_le hgl4 hs.size)).trans cr4
        have HT9' := Lib.hid (show ((T.length : Int) == 9) = true by rw [HT9.out]; rfl)
        have S9 := S4.trans hs
        have hneg : ¬ (9 : Int) < (T.length : Int) := by have := HT9.out; omega
        replace hR := hR.same hs
        clear hr HSS hlt hk ca0 ca1 ca2 ca3 ca4 hb b0
        go_wp2
        clear hneg
        have hlN : L.length ≤ 11 := hl
        go_region
        clear dr1 dr2 dr3 dr4 cr1 cr2 cr3 cr4 e1 e2 e3 k2 k3 k4
        have h9 := (BoxAt.new wr 25 [.int .i64 q1, .int .i64 q2, .int .i64 q3, .int .i64 q4]).same (Same.refl _).drew
        have sx := ((Same.refl wr).alloc (.cells #[.int .i64 q1, .int .i64 q2, .int .i64 q3, .int .i64 q4] 25)).drew
        replace h9 : BoxAt (wr.alloc (.cells #[.int .i64 q1, .int .i64 q2, .int .i64 q3, .int .i64 q4] 25)).drew wr.heap.size 25 [.int .i64 q1, .int .i64 q2, .int .i64 q3, .int .i64 q4] := h9
        generalize (wr.alloc (.cells #[.int .i64 q1, .int .i64 q2, .int .i64 q3, .int .i64 q4] 25)).drew = wx at *
        generalize wr.heap.size = g9 at *
        replace hbr := hbr.same sx
        replace hR := hR.same sx
        replace iT := (iT.same hs).same sx
        replace S9 := S9.trans sx
        clear sx hs S4
        have b0 := hbr.cell 0 rfl
        have y0 := h9.cell 0 rfl
        have y1 := h9.cell 1 rfl
        have y2 := h9.cell 2 rfl
        have y3 := h9.cell 3 rfl
        obtain ⟨M, hM⟩ : ∃ M, M = L ++ [(q1, q2, q3, q4)] := ⟨_, rfl⟩
        have hlM : M.length ≤ 12 := by rw [hM]; simp; omega
        have hpo := post_ok HOK.out (by omega) HQ.out
        rw [← hM] at hpo
        have hokM : ledgerOk M = true := by rw [hM]; exact ok_push HOK.out (by omega) HQ.out
        obtain ⟨M2, hM2⟩ : ∃ M2, M2 = M ++ [(q1, q3, q2, q4)] := ⟨_, rfl⟩
        have hpo2 := post_ok hokM (by omega) (back_ok HQ.out)
        rw [← hM2] at hpo2
        have hokM2 : ledgerOk M2 = true := by rw [hM2]; exact ok_push hokM (by omega) (back_ok HQ.out)
        have hT2 : trial M2 x = T := by rw [hM2, hM, trial_back HOK.out (by omega) HQ.out, HT.out]
        have hlM2 : M2.length ≤ 13 := by rw [hM2]; simp; omega
        have HPO := Lib.hid hpo
        have HPO2 := Lib.hid hpo2
        have HOK2 := Lib.hid hokM2
        have HT2 := Lib.hid hT2
        clear hM hM2 hpo hpo2 hokM hokM2 hT2
        go_wp2_with fail
        refine (iPost_any A1 c1 L q1 q2 q3 q4 _ (by omega) hR).mono ?_
        rw [HPO.out.1, HPO.out.2]
        rintro e w6 ⟨A6, c6, rfl, ho6, hs6⟩
        have h10 := BoxAt.new w6 38 [.slice A6 M.length c6]
        have al := (Same.refl w6).alloc (.cells #[.slice A6 M.length c6] 38)
        have hx10 : wx.heap.size ≤ w6.heap.size := hs6.size
        have Sx7 := hs6.trans al
        replace ho6 := ho6.same al
        clear b0 y0 y1 y2 y3 hs6 al hbr hR
        go_wp2
        generalize w6.alloc (.cells #[.slice A6 M.length c6] 38) = w7 at *
        generalize w6.heap.size = g10 at *
        have b10 := h10.cell 0 rfl
        have y0 := (h9.same Sx7).cell 0 rfl
        have y1 := (h9.same Sx7).cell 1 rfl
        have y2 := (h9.same Sx7).cell 2 rfl
        have y3 := (h9.same Sx7).cell 3 rfl
        have HP := Lib.hid (fun (w' : World) (hw' : Same w7 w') => show Calls Try.prog 40 #[.agg #[.slice A6 M.length c6], .agg #[.int .i64 q1, .int .i64 q3, .int .i64 q2, .int .i64 q4]] w' (RetLedgerX w' M2 (.bool true)) by
          have := iPost_any A6 c6 M q1 q3 q2 q4 w' (by omega) ((OwnR.recs cPosting_len ho6).same hw')
          rw [HPO2.out.1, HPO2.out.2] at this
          exact this)
        go_cut [12] from 73 to 81 (fun t12 wz => ∃ (A9 : Option Addr) (c9 : Nat), t12 = .bool true ∧ BoxAt wz g10 38 [.slice A9 M2.length c9] ∧ OwnPosting wz wx.heap.size (.slice A9 M2.length c9) M2 ∧ Same wx wz)
        case first =>
          go_region_law
            (first
              | (refine step_of (by rfl) ?_; go_simp; go_at_call 20; (with_reducible refine Calls.mono (iReversal_any q1 q2 q3 q4 q1 _) ?_); rintro e w8 ⟨rfl, hs8⟩; dsimp only; (have b8 := (h10.same ((Same.refl _).drew.trans hs8)).cell 0 rfl))
              | (refine step_of (by rfl) ?_; go_simp; go_at_call 40; (with_reducible refine Calls.mono (HP.out _ ((Same.refl _).drew.trans hs8)) ?_); rintro e w9 ⟨A9, c9, rfl, ho9, hs9⟩; dsimp only; (have S79 := ((Same.refl w7).drew.trans hs8).trans hs9); (have b9 := (h10.same S79).cell 0 rfl); (have f9 := (h10.same S79).frozen 0)))
          all_goals
            have zo9 := OwnR.zn ho9
            have n8 := hs8.size
            have n7 : w7.heap.size ≤ w7.drew.heap.size := Nat.le_refl _
            have hg := h10.lt
            have k10 := (h10.same S79).set 0 (.slice A9 M2.length c9)
            have o9 := OwnR.upd ho9 (upd_setCell w9 g10 0 (.slice A9 M2.length c9)) zo9 (.inr (by omega))
            have Sx9 := (Sx7.trans S79).setCell (p := ⟨g10, 0, none⟩) hx10 (.slice A9 M2.length c9)
            have c10 := k10.cell 0 rfl
            clear b10 y0 y1 y2 y3 b8
            go_wp2_with fail
            go_meet
            exact ⟨A9, c9, rfl, k10, OwnR.rebase o9 (by have := Sx7.size; omega), Sx9⟩
        case rest =>
          obtain ⟨A9, c9, rfl, k10, o9, Sx9⟩ := hcut
          have l9 : (T.length : Int) ≤ 9 := by have := HT9.out; omega
          have g9' : (9 : Int) ≤ (T.length : Int) := by have := HT9.out; omega
          have R9 := OwnR.recs cPosting_len o9
          have c10 := k10.cell 0 rfl
          clear HP ho6 Sx7 h10 b10 y0 y1 y2 y3
          go_wp2_with fail
          refine (iTrial_any A9 c9 M2 x _ (by omega) R9).mono ?_
          rw [HT2.out]
          rintro e v1 ⟨B1, d1, rfl, p1, t1⟩
          have hTl : T.length ≤ 9223372036854775807 := by have := HT9.out; omega
          go_wp2_with fail
          refine (sameInts_any _ _ _ _ T T _ hTl hTl (OwnI.ints p1) ((iT.same Sx9).same t1)).mono ?_
          rintro e v2 ⟨rfl, t2⟩
          have T2 := t1.trans t2.same
          rw [show (decide (T = T)) = true by simp]
          have c10' := (k10.same T2).cell 0 rfl
          clear c10
          go_wp2_with fail
          refine (iLedgerOk_any A9 c9 M2 _ (by omega) (R9.same T2)).mono ?_
          rw [HOK2.out]
          rintro e v3 ⟨rfl, t3⟩
          have T3 := T2.trans t3
          clear c10'
          have y0 := ((h9.same Sx9).same T3).cell 0 rfl
          have y1 := ((h9.same Sx9).same T3).cell 1 rfl
          have y2 := ((h9.same Sx9).same T3).cell 2 rfl
          have y3 := ((h9.same Sx9).same T3).cell 3 rfl
          go_wp2_with fail
          refine (iPostingOk_any q1 q2 q3 q4 _).mono ?_
          rw [HQ.out]
          rintro e v4 ⟨rfl, t4⟩
          clear y0 y1 y2 y3
          go_wp2
          go_ret
          exact ⟨rfl, ((S9.trans Sx9).trans T3).trans t4⟩
  · go_enter Try.func9, Try.ntmps9
    go_wp2_with (go_at_call 34; refine (big_yes A n c _ hn hbig).mono ?_; rintro e w' ⟨rfl, rfl⟩)
    go_ret
    exact ⟨rfl, Same.refl _⟩
end Go.Proofs.Ythelclibokkdnaa
