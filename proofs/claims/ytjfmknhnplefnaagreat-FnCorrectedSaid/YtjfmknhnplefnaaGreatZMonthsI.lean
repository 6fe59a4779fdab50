/-
  Months that two spans share; service (the program's side).
-/
import Derived.Test.YtjfmknhnplefnaaGreatZIntS
import Derived.Test.YtjfmknhnplefnaaGreatZService
import Derived.Test.YtjfmknhnplefnaaGreatZRuleOk
import Derived.Deep.RegionHeld3
namespace Go.Proofs.YtjfmknhnplefnaaGreat
open Go.RowKit
set_option linter.unusedVariables false
set_option linter.unusedSimpArgs false

set_option maxRecDepth 10000 in
set_option maxHeartbeats 2000000 in
theorem iMonthsIn_any (a b c d : Int) (w : World) :
    Calls Tryz.prog 122 #[.int .i64 a, .int .i64 b, .int .i64 c, .int .i64 d] w fun e w' => e = .returned (.int .i64 (monthsIn a b c d)) ∧ Same w w' := by
  have HR := Lib.hid (show monthsIn a b c d = if ([a, b, c, d].all fun z => inB z 0 3600) then max 0 (min b d - max a c) else 0 by
    unfold monthsIn endOk
    simp only [List.all_cons, List.all_nil, Bool.and_true, Bool.and_assoc])
  have HI : Hid (([a, b, c, d].all fun z => inB z 0 3600) = true → (0 ≤ a ∧ a ≤ 3600) ∧ (0 ≤ b ∧ b ≤ 3600) ∧ (0 ≤ c ∧ c ≤ 3600) ∧ (0 ≤ d ∧ d ≤ 3600)) := by
    show _ → _
    simp only [List.all_cons, List.all_nil, Bool.and_true, Bool.and_eq_true, inB_iff]
    exact id
  have HA : ∀ (w : World) (g : Nat), g < w.heap.size → (∀ j z, [a, b, c, d][j]? = some z → w.cell? ⟨g, j, none⟩ = some (.int .i64 z)) → Calls Tryz.prog 169 #[.slice (some ⟨g, 0, none⟩) 4 4, .int .i64 0, .int .i64 3600] w fun e w' => e = .returned (.bool ([a, b, c, d].all fun z => inB z 0 3600)) ∧ Same w w' := fun w g hg h =>
    allWithin_any (some ⟨g, 0, none⟩) 4 [a, b, c, d] 0 3600 w (by simp) (.inr ⟨g, 0, rfl, hg, fun k x hx => by rw [Nat.zero_add]; exact h k x hx⟩)
  have HA := Lib.hid HA
  obtain ⟨q, hq⟩ : ∃ q, q = ([a, b, c, d].all fun z => inB z 0 3600) := ⟨_, rfl⟩
  rw [← hq] at HR HI HA
  clear hq
  go_enter Tryz.func122, Tryz.ntmps122
  go_wp2_with fail
  have hb := BoxAt.new w 3 [.int .i64 a, .int .i64 b, .int .i64 c, .int .i64 d]
  refine (HA.out _ w.heap.size hb.lt ?_).mono ?_
  · intro j z hz
    refine hb.cell j ?_
    match j, hz with
    | 0, hz => cases hz; rfl
    | 1, hz => cases hz; rfl
    | 2, hz => cases hz; rfl
    | 3, hz => cases hz; rfl
    | j + 4, hz => simp at hz
  rintro e w1 ⟨rfl, hs1⟩
  have S1 := ((Same.refl w).alloc (.cells #[.int .i64 a, .int .i64 b, .int .i64 c, .int .i64 d] 3)).trans hs1
  clear hb hs1 HA
  cases q
  · go_wp2
    go_ret
    exact ⟨ret_int (by rw [HR.out]; rfl), S1⟩
  · have h := HI.out rfl
    have HV := Lib.hid (show monthsIn a b c d = max 0 (min b d - max a c) by rw [HR.out, if_pos rfl])
    clear HI HR
    go_wp2
    all_goals go_ret
    all_goals exact ⟨ret_int (by rw [HV.out]; omega), S1⟩

theorem svOf_some (f0 f1 f2 : Int) (f3 : Bool) (a b : Int) : svOf (f0, f1, f2, f3) a b = if f3 = true then 0 else f2 * monthsIn a b f0 f1 := by
  unfold svOf
  dsimp only
  rw [monthsIn_comm f0 f1 a b]

set_option maxRecDepth 10000 in
set_option maxHeartbeats 4000000 in
theorem iServiceIn_any (A : Option Addr) (c : Nat) (L : List TSpell) (fr to : Int) (w : World) (hz : L.length ≤ 1048576) (hA : AtSpell w A L) (h1 : inB fr 0 3600 = true) (h2 : inB to 0 3600 = true) :
    Calls Tryz.prog 63 #[.slice A L.length c, .int .i64 fr, .int .i64 to] w fun e w' => e = .returned (.int .i64 (serviceIn L fr to)) ∧ Same w w' := by
  have HR := Lib.hid (show serviceIn L fr to = if spellsOk L = true then svTo L fr to L.length else 0 from rfl)
  have HE := Lib.hid (iSpellsOk_any A c L w hz hA)
  have H1 := Lib.hid h1
  have H2 := Lib.hid h2
  have HM := Lib.hid (fun x w => show Calls Tryz.prog 97 #[.int .i64 x] w fun e w' => e = .returned (.bool (inB x 0 3600)) ∧ w = w' from iEnd_any x w)
  clear h1 h2
  cases hk : spellsOk L
  · rw [hk] at HE
    have HV := Lib.hid (show serviceIn L fr to = 0 by rw [HR.out, hk]; rfl)
    clear hk HR
    go_enter Tryz.func63, Tryz.ntmps63
    go_wp2_with fail
    refine HE.out.mono ?_
    rintro e w1 ⟨rfl, hs1⟩
    go_wp2
    go_ret
    exact ⟨ret_int HV.out.symm, hs1⟩
  · rw [hk] at HE
    have HV := Lib.hid (show serviceIn L fr to = svTo L fr to L.length by rw [HR.out, hk]; rfl)
    have HK := Lib.hid hk
    clear hk HR
    go_enter Tryz.func63, Tryz.ntmps63
    go_wp2_with fail
    refine HE.out.mono ?_
    rintro e w1 ⟨rfl, hs1⟩
    clear HE
    go_wp2_with fail
    refine (HM.out fr _).mono ?_
    rw [H1.out]
    rintro e w2 ⟨rfl, rfl⟩
    go_wp2_with fail
    refine (HM.out to _).mono ?_
    rw [H2.out]
    rintro e w2 ⟨rfl, rfl⟩
    go_wp2
    go_loopw [7, 25] (fun q i wr => ∃ k : Nat, k ≤ L.length ∧ i = .int .i64 k ∧ q = .int .i64 (svTo L fr to k) ∧ Same w wr) (fun _ i _ => L.length - (intOf i).toNat)
    case atStart => exact ⟨0, Nat.zero_le _, rfl, rfl, hs1⟩
    case round =>
      obtain ⟨k, hk, rfl, rfl, hs⟩ := hrel
      by_cases hlt : k < L.length
      · obtain ⟨b, off, x, rfl, hc, HX, hbl⟩ := (hA.same hs).at_ hlt
        obtain ⟨f0, f1, f2, f3⟩ := x
        have hp := spells_pc HK.out HX.out
        have hsv := svTo_range fr to HK.out k (by omega)
        have hmm := monthsIn_range fr to f0 f1
        have HS := Lib.hid (svTo_succ (a := fr) (b := to) HX.out)
        have HQ := Lib.hid (fun w => iMonthsIn_any fr to f0 f1 w)
        have HO := Lib.hid (svOf_some f0 f1 f2 f3 fr to)
        obtain ⟨mi, hmi⟩ : ∃ mi, mi = monthsIn fr to f0 f1 := ⟨_, rfl⟩
        obtain ⟨sv, hsv2⟩ : ∃ sv, sv = svTo L fr to k := ⟨_, rfl⟩
        rw [← hmi] at HQ HO hmm
        rw [← hsv2] at HS hsv ⊢
        clear hmi hsv2
        have q1 : 0 ≤ f2 * mi := Int.mul_nonneg (by omega) hmm.1
        have q2 : f2 * mi ≤ 100 * 3600 := Int.mul_le_mul hp.2 hmm.2 hmm.1 (by omega)
        have d0 := hc 0 _ rfl
        have d1 := hc 1 _ rfl
        have d2 := hc 2 _ rfl
        have d3 := hc 3 _ rfl
        simp only [Nat.add_zero] at d0 d1 d2 d3
        clear hc HX hA
        have hb := BoxAt.new wr 160 [.int .i64 f0, .int .i64 f1, .int .i64 f2, .bool f3]
        have hsb := hs.alloc (.cells #[.int .i64 f0, .int .i64 f1, .int .i64 f2, .bool f3] 160)
        cases f3
        · have HT := Lib.hid (show svTo L fr to (k + 1) = sv + f2 * mi by rw [HS.out, HO.out]; simp)
          go_wp2
          generalize wr.alloc (.cells #[.int .i64 f0, .int .i64 f1, .int .i64 f2, .bool false] 160) = w3 at *
          have y0 := hb.cell 0 rfl
          have y1 := hb.cell 1 rfl
          have y2 := hb.cell 2 rfl
          have k1 : IntKind.i64.wrap (f2 * mi) = f2 * mi := IntWalk.i64_in _ (by omega)
          have k2 : IntKind.i64.wrap (sv + f2 * mi) = sv + f2 * mi := IntWalk.i64_in _ (by omega)
          go_region_held3 (fun x => x.cell? ⟨wr.heap.size, 0, none⟩ = some (.int .i64 f0) ∧ x.cell? ⟨wr.heap.size, 1, none⟩ = some (.int .i64 f1) ∧ x.cell? ⟨wr.heap.size, 2, none⟩ = some (.int .i64 f2))
            (first | exact ⟨y0, y1, y2⟩ | (with_reducible exact ⟨z0, z1, z2⟩))
            (first | (go_at_call 122; refine (HQ.out _).mono ?_; rintro e w5 ⟨rfl, hs5⟩; (have T5 := (Same.refl _).drew.trans hs5); (have z0 := (hb.same T5).cell 0 rfl); (have z1 := (hb.same T5).cell 1 rfl); (have z2 := (hb.same T5).cell 2 rfl)))
          go_wp2
          go_roundw
          case rel => exact ⟨k + 1, hlt, by go_num, by rw [HT.out], hsb.trans T5⟩
          case measure => simp [intOf]; omega
        · have HT := Lib.hid (show svTo L fr to (k + 1) = sv by rw [HS.out, HO.out]; simp)
          go_wp2
          go_roundw
          case rel => exact ⟨k + 1, hlt, by go_num, by rw [HT.out], hsb⟩
          case measure => simp [intOf]; omega
      · obtain rfl : k = L.length := by omega
        go_wp2
        go_ret
        exact ⟨ret_int HV.out.symm, hs⟩
end Go.Proofs.YtjfmknhnplefnaaGreat
