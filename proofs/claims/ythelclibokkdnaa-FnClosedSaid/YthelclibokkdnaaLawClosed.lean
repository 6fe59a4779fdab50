/-
  FnClosed: for every list of bytes closed months never change. No condition.
-/
import Derived.Test.YthelclibokkdnaaBooksI
import Derived.Test.YthelclibokkdnaaClosedPart
import Derived.Test.YthelclibokkdnaaSameL
import Derived.Deep.Cut
import Derived.Deep.CutRange
namespace Go.Proofs.Ythelclibokkdnaa
open Go.RowKit
set_option linter.unusedVariables false

theorem ledger_push {L : List TPosting} {p : TPosting} (h : ledgerOk L = true) (hl : L.length ≤ 200) (hp : postingOk p = true) : ledgerOk (L ++ [p]) = true := by
  rw [ledgerOk, Bool.and_eq_true, decide_eq_true_eq] at h ⊢
  refine ⟨by simp; omega, ?_⟩
  rw [List.all_append, h.2]
  simp [hp]
theorem closed_push {L : List TPosting} {p : TPosting} {z : Int} (h : ledgerOk L = true) (hl : L.length ≤ 200) (hp : postingOk p = true) (hz0 : 0 ≤ z) (hz1 : z ≤ 3599) (hm : z ≤ p.1) : closedPart (L ++ [p]) z = closedPart L z := by
  have h1 := ledger_push h hl hp
  rw [closedPart_yes (by rw [h1]; simp [inB]; omega), closedPart_yes (by rw [h]; simp [inB]; omega), List.filter_append]
  have : openQ z p = false := by simp [openQ]; omega
  simp [this]
theorem filter_more {z n : Int} (h : z ≤ n) : ∀ L : List TPosting, (L.filter (openQ z)).length ≤ (L.filter (openQ n)).length
  | [] => by simp
  | p :: L => by
    have ih := filter_more h L
    rw [List.filter_cons, List.filter_cons]
    by_cases h1 : p.1 < z
    · have e1 : openQ z p = true := by simp [openQ]; omega
      have e2 : openQ n p = true := by simp [openQ]; omega
      simp [e1, e2, ih]
    · have e1 : openQ z p = false := by simp [openQ]; omega
      rw [if_neg (by simp [e1])]
      split
      · simp; omega
      · exact ih
theorem closed_more {L : List TPosting} {p : TPosting} {z n : Int} (h : ledgerOk L = true) (hl : L.length ≤ 200) (hp : postingOk p = true) (hz0 : 0 ≤ z) (hz : z ≤ n) (hn1 : n ≤ 3599) : (closedPart L z).length ≤ (closedPart (L ++ [p]) n).length := by
  have h1 := ledger_push h hl hp
  rw [closedPart_yes (by rw [h]; simp [inB]; omega), closedPart_yes (by rw [h1]; simp [inB]; omega), List.filter_append, List.length_append]
  have := filter_more hz L
  omega

set_option maxRecDepth 100000 in
set_option maxHeartbeats 4000000 in
theorem lawClosed (A : Option Addr) (n c : Nat) (w : World) (hn : n ≤ 9223372036854775807) (hA : BytesAt w w.heap.size A n) :
    Calls Try.prog 12 #[.slice A n c] w fun e w' => e = .returned (.bool true) ∧ Same w w' := by
  by_cases hbig : n ≤ 1048576
  · go_enter Try.func12, Try.ntmps12
    go_wp2_with fail
    refine (big_no A n c _ hbig).mono ?_
    rintro e w0 ⟨rfl, rfl⟩
    go_wp2_with fail
    refine (drawBooks_any A n c _ hbig hA).mono ?_
    rintro e w1 ⟨L, A1, c1, z, rfl, hl, sm, z0, z1, ho1, hs1⟩
    have hb := BoxAt.new w1 47 [.slice A1 L.length c1, .int .i64 z]
    have al := (Same.refl w1).alloc (.cells #[.slice A1 L.length c1, .int .i64 z] 47)
    replace ho1 := ho1.same al
    have S1 := hs1.trans al
    clear hs1
    go_wp2_with fail
    generalize w1.alloc (.cells #[.slice A1 L.length c1, .int .i64 z] 47) = w2 at *
    generalize w1.heap.size = g3 at *
    refine (drawPlaces_any A n c _ hbig (hA.keep' S1)).mono ?_
    rintro e w3 ⟨ps, D, g0, rfl, hpl, ho3, hs3⟩
    obtain ⟨p0, hp0, pl0, ph0⟩ := hpl.get (k := 0) (by omega)
    obtain ⟨p1, hp1, pl1, ph1⟩ := hpl.get (k := 1) (by omega)
    obtain ⟨p2, hp2, pl2, ph2⟩ := hpl.get (k := 2) (by omega)
    obtain ⟨p3, hp3, pl3, ph3⟩ := hpl.get (k := 3) (by omega)
    obtain ⟨p4, hp4, pl4, ph4⟩ := hpl.get (k := 4) (by omega)
    obtain ⟨h, rfl, _, hgl, _⟩ := ho3.at_ hp0
    have ca0 := ho3.cell hp0
    have ca1 := ho3.cell hp1
    have ca2 := ho3.cell hp2
    have ca3 := ho3.cell hp3
    have ca4 := ho3.cell hp4
    have hl12 : (12 : Int) ≤ (ps.length : Int) := by have := hpl.1; omega
    replace hb := hb.same hs3
    have S3 := S1.trans hs3
    have hR : AtPosting w3 A1 L := (OwnR.recs cPosting_len ho1).same hs3
    have hok := sm.ok (by omega)
    have HOK := Lib.hid hok
    clear hp0 hp1 hp2 hp3 hp4 hpl ho3 hs3 al ho1 S1 hok sm
    have b0 := hb.cell 0 rfl
    have b1 := hb.cell 1 rfl
    obtain ⟨O, hO⟩ : ∃ O, O = closedPart L z := ⟨_, rfl⟩
    have HO := Lib.hid hO
    have hlO : O.length ≤ 600000 := by rw [hO]; exact closedPart_len L z
    clear hO
    go_wp2_with fail
    refine (iClosedPart_any A1 c1 L z _ (by omega) hR).mono ?_
    rw [← HO.out]
    rintro e w4 ⟨B, d, rfl, hoO, hs4⟩
    have iO := OwnR.recs cPosting_len hoO
    have hs := hs4
    have hgl3 := hgl
    clear b0 b1 hoO
    have cr0 := (hs4.cell (p := ⟨h, 0, none⟩) hgl3).trans ca0
    have cr1 := (hs4.cell (p := ⟨h, 1, none⟩) hgl3).trans ca1
    have cr2 := (hs4.cell (p := ⟨h, 2, none⟩) hgl3).trans ca2
    have cr3 := (hs4.cell (p := ⟨h, 3, none⟩) hgl3).trans ca3
    obtain ⟨q1, e1⟩ : ∃ q, Int.tmod p0 80 = q := ⟨_, rfl⟩
    obtain ⟨r2, e2⟩ : ∃ q, Int.tmod p1 4 = q := ⟨_, rfl⟩
    obtain ⟨r3, e3⟩ : ∃ q, Int.tmod p2 5 = q := ⟨_, rfl⟩
    have e1' : q1 = p0 % 80 := by rw [← e1]; exact Int.tmod_eq_emod_of_nonneg (by omega)
    have e2' : r2 = p1 % 4 := by rw [← e2]; exact Int.tmod_eq_emod_of_nonneg (by omega)
    have e3' : r3 = p2 % 5 := by rw [← e3]; exact Int.tmod_eq_emod_of_nonneg (by omega)
    obtain ⟨q2, k2⟩ : ∃ q, IntKind.i64.wrap (1 + r2) = q := ⟨_, rfl⟩
    have k2' : q2 = 1 + r2 := by rw [← k2]; exact IntWalk.i64_in _ (by omega)
    obtain ⟨q3, k3⟩ : ∃ q, IntKind.i64.wrap (5 + r3) = q := ⟨_, rfl⟩
    have k3' : q3 = 5 + r3 := by rw [← k3]; exact IntWalk.i64_in _ (by omega)
    obtain ⟨q4, k4⟩ : ∃ q, IntKind.i64.wrap (1 + p3) = q := ⟨_, rfl⟩
    have k4' : q4 = 1 + p3 := by rw [← k4]; exact IntWalk.i64_in _ (by omega)
    have hq1 : 0 ≤ q1 ∧ q1 < 80 := by omega
    have hq : postingOk (q1, q2, q3, q4) = true := postingOk_iff.2 ⟨⟨by omega, by omega⟩, ⟨by omega, by omega⟩, ⟨by omega, by omega⟩, by omega, by omega, by omega⟩
    have HQ := Lib.hid hq
    clear e1' e2' e3' k2' k3' k4' hq
    have dr0 := (((Same.refl w4).alloc (.cells #[.int .i64 0, .int .i64 0, .int .i64 0, .int .i64 0] 25)).cell (p := ⟨h, 0, none⟩) (Nat.lt_of_lt_of_le hgl3 hs4.size)).trans cr0
    have dr1 := (((Same.refl w4).alloc (.cells #[.int .i64 0, .int .i64 0, .int .i64 0, .int .i64 0] 25)).cell (p := ⟨h, 1, none⟩) (Nat.lt_of_lt_of_le hgl3 hs4.size)).trans cr1
    have dr2 := (((Same.refl w4).alloc (.cells #[.int .i64 0, .int .i64 0, .int .i64 0, .int .i64 0] 25)).cell (p := ⟨h, 2, none⟩) (Nat.lt_of_lt_of_le hgl3 hs4.size)).trans cr2
    have dr3 := (((Same.refl w4).alloc (.cells #[.int .i64 0, .int .i64 0, .int .i64 0, .int .i64 0] 25)).cell (p := ⟨h, 3, none⟩) (Nat.lt_of_lt_of_le hgl3 hs4.size)).trans cr3
    have cr4 := (hs4.cell (p := ⟨h, 4, none⟩) hgl3).trans ca4
    replace hb := hb.same hs4
    replace hR := hR.same hs4
    have S4 := S3.trans hs4
    clear ca0 ca1 ca2 ca3 ca4 S3
    go_wp2
    go_region
    clear dr0 dr1 dr2 dr3 cr0 cr1 cr2 cr3 e1 e2 e3 k2 k3 k4
    have h6 : BoxAt (w4.alloc (.cells #[.int .i64 q1, .int .i64 q2, .int .i64 q3, .int .i64 q4] 25)).drew w4.heap.size 25 [.int .i64 q1, .int .i64 q2, .int .i64 q3, .int .i64 q4] := (BoxAt.new w4 25 [.int .i64 q1, .int .i64 q2, .int .i64 q3, .int .i64 q4]).same (Same.refl _).drew
    have sx := ((Same.refl w4).alloc (.cells #[.int .i64 q1, .int .i64 q2, .int .i64 q3, .int .i64 q4] 25)).drew
    generalize (w4.alloc (.cells #[.int .i64 q1, .int .i64 q2, .int .i64 q3, .int .i64 q4] 25)).drew = wx at *
    have cx4 := (sx.cell (p := ⟨h, 4, none⟩) (Nat.lt_of_lt_of_le hgl3 hs4.size)).trans cr4
    have hgx := Nat.lt_of_lt_of_le (Nat.lt_of_lt_of_le hgl3 hs4.size) sx.size
    generalize w4.heap.size = g6 at *
    replace hb := hb.same sx
    replace hR := hR.same sx
    replace iO := iO.same sx
    have Sx := S4.trans sx
    clear sx hs4 hs S4 cr4 hgl hgl3
    have b0 := hb.cell 0 rfl
    have b1 := hb.cell 1 rfl
    have y0 := h6.cell 0 rfl
    have y1 := h6.cell 1 rfl
    have y2 := h6.cell 2 rfl
    have y3 := h6.cell 3 rfl
    go_wp2_with fail
    refine (iPostOpen_yes A1 c1 L z q1 q2 q3 q4 _ (by omega) HOK.out z0 (by omega) HQ.out hR).mono ?_
    obtain ⟨M, hM⟩ : ∃ M, M = if z ≤ q1 then L ++ [(q1, q2, q3, q4)] else L := ⟨_, rfl⟩
    have hlM : M.length ≤ 12 := by rw [hM]; split <;> first | (simp; omega) | omega
    have HM := Lib.hid (show closedPart M z = O by
      rw [hM, HO.out]
      split
      · exact closed_push HOK.out (by omega) HQ.out z0 (by omega) (by assumption)
      · rfl)
    rw [← hM]
    clear hM
    rintro e w5 ⟨A5, c5, rfl, ho5, hs5⟩
    have al5 := (Same.refl w5).alloc (.cells #[.slice A5 M.length c5, .int .i64 z] 47)
    have h7 := BoxAt.new w5 47 [.slice A5 M.length c5, .int .i64 z]
    have S5 := hs5.trans al5
    have R5 := (OwnR.recs cPosting_len ho5).same al5
    clear b0 b1 y0 y1 y2 y3 hs5 al5 ho5
    have b0 := (hb.same S5).cell 0 rfl
    have b1 := (hb.same S5).cell 1 rfl
    have y0 := (h6.same S5).cell 0 rfl
    have y1 := (h6.same S5).cell 1 rfl
    have y2 := (h6.same S5).cell 2 rfl
    have y3 := (h6.same S5).cell 3 rfl
    go_wp2_with fail
    generalize w5.alloc (.cells #[.slice A5 M.length c5, .int .i64 z] 47) = w6 at *
    generalize w5.heap.size = g7 at *
    obtain ⟨m, hm⟩ : ∃ m, m = max q1 z := ⟨_, rfl⟩
    refine (iPostLate_yes A1 c1 L z q1 m q2 q3 q4 _ (by omega) HOK.out z0 (by omega) HQ.out hm (hR.same S5)).mono ?_
    have hqm : postingOk (m, q2, q3, q4) = true := by
      have := postingOk_iff.1 HQ.out
      refine postingOk_iff.2 ⟨by omega, this.2⟩
    obtain ⟨N, hN⟩ : ∃ N, N = L ++ [(m, q2, q3, q4)] := ⟨_, rfl⟩
    have hlN : N.length ≤ 12 := by rw [hN]; simp; omega
    have HN := Lib.hid (show closedPart N z = O by rw [hN, HO.out]; exact closed_push HOK.out (by omega) hqm z0 (by omega) (by dsimp only; omega))
    have HNok := Lib.hid (show ledgerOk N = true by rw [hN]; exact ledger_push HOK.out (by omega) hqm)
    obtain ⟨r4, e4⟩ : ∃ r, Int.tmod p4 30 = r := ⟨_, rfl⟩
    have e4' : r4 = p4 % 30 := by rw [← e4]; exact Int.tmod_eq_emod_of_nonneg (by omega)
    obtain ⟨k, hk⟩ : ∃ k, IntKind.i64.wrap (z + r4) = k := ⟨_, rfl⟩
    have hk' : k = z + r4 := by rw [← hk]; exact IntWalk.i64_in _ (by omega)
    have HNm := Lib.hid (show O.length ≤ (closedPart N k).length by rw [HO.out, hN]; exact closed_more HOK.out (by omega) hqm z0 (by omega) (by omega))
    have hzk : z ≤ k := by omega
    have hk2 : k ≤ 3599 := by omega
    have HMX := Lib.hid hm
    rw [← hN]
    clear hN hm e4' hk' hqm
    rintro e w7 ⟨A7, c7, rfl, ho7, hs7⟩
    have al7 := (Same.refl w7).alloc (.cells #[.slice A7 N.length c7, .int .i64 z] 47)
    have h9 := BoxAt.new w7 47 [.slice A7 N.length c7, .int .i64 z]
    have S7 := hs7.trans al7
    have R7 := (OwnR.recs cPosting_len ho7).same al7
    have Sx7 := S5.trans S7
    replace R5 := R5.same S7
    replace h7 := h7.same S7
    replace hb := hb.same Sx7
    replace h6 := h6.same Sx7
    replace iO := iO.same Sx7
    have cy4 := (Sx7.cell (p := ⟨h, 4, none⟩) hgx).trans cx4
    replace Sx := Sx.trans Sx7
    have hgy := Nat.lt_of_lt_of_le hgx Sx7.size
    clear b0 b1 y0 y1 y2 y3 hs7 al7 ho7 cx4 Sx7 S5 S7 hR
    go_wp2
    generalize w7.alloc (.cells #[.slice A7 N.length c7, .int .i64 z] 47) = w8 at *
    generalize w7.heap.size = g9 at *
    have HC := Lib.hid (fun (w' : World) (hw' : Same w8 w') => show Calls Try.prog 49 #[.agg #[.slice A7 N.length c7, .int .i64 z], .int .i64 k] w' (RetBooksX w' N k (.bool true)) from iCloseUpTo_yes A7 c7 N z k w' (by omega) HNok.out z0 hzk hk2 (R7.same hw'))
    have HK := Lib.hid (fun (w' : World) (hw' : Same w8 w') => show Same w8 w' ∧ w'.cell? ⟨g9, 0, none⟩ = some (.slice A7 N.length c7) ∧ w'.cell? ⟨g9, 1, none⟩ = some (.int .i64 z) ∧ w'.cell? ⟨g3, 1, none⟩ = some (.int .i64 z) ∧ w'.cell? ⟨h, 4, none⟩ = some (.int .i64 p4) from
      ⟨hw', (h9.same hw').cell 0 rfl, (h9.same hw').cell 1 rfl, (hb.same hw').cell 1 rfl, (hw'.cell hgy).trans cy4⟩)
    go_cut [12, 13] from 55 to 66 (fun t12 t13 wz => ∃ (g12 : Nat) (A9 : Option Addr) (c9 : Nat), t12 = .pointer (some ⟨g12, 0, none⟩) ∧ t13 = .bool true ∧ BoxAt wz g12 47 [.slice A9 N.length c9, .int .i64 k] ∧ AtPosting wz A9 N ∧ Same w8 wz)
    case first =>
      have q4l : (4 : Int) < (ps.length : Int) := by omega
      go_region_held3 (fun w' => Same w8 w' ∧ w'.cell? ⟨g9, 0, none⟩ = some (.slice A7 N.length c7) ∧ w'.cell? ⟨g9, 1, none⟩ = some (.int .i64 z) ∧ w'.cell? ⟨g3, 1, none⟩ = some (.int .i64 z) ∧ w'.cell? ⟨h, 4, none⟩ = some (.int .i64 p4))
        (first | exact HK.out _ (Same.refl _).drew | exact HK.out _ S9 | exact HK.out _ (S9.alloc _) | exact HK.out _ ((S9.setCell (Nat.le_refl _) _).setCell (Nat.le_refl _) _) | (go_split_ands; exact HK.out _ (Same.alloc (by assumption) _)))
        ((go_split_ands; go_at_call 49; refine (HC.out _ (by assumption)).mono ?_; rintro e w9 ⟨A9, c9, rfl, ho9, hs9⟩; (have S9 := Same.trans (show Same w8 _ by assumption) hs9); try ((have hb8 : BoxAt w9 w8.heap.size 47 [.slice none 0 0, .int .i64 0] := (BoxAt.new w8.drew 47 [.slice none 0 0, .int .i64 0]).same hs9); (have q8 := hb8.cell 0 rfl); (have q9 := hb8.cell 1 rfl); (have f8 := hb8.frozen 0); (have f9 := hb8.frozen 1))))
      all_goals
        have zo9 := OwnR.zn ho9
        go_split_ands
        first
          | ((have k8 : BoxAt ((w9.setCell ⟨w8.heap.size, 0, none⟩ (.slice A9 N.length c9)).setCell ⟨w8.heap.size, 1, none⟩ (.int .i64 k)) w8.heap.size 47 [.slice A9 N.length c9, .int .i64 k] := (hb8.set 0 (.slice A9 N.length c9)).set 1 (.int .i64 k)); (have S8 := (S9.setCell (p := ⟨w8.heap.size, 0, none⟩) (Nat.le_refl _) (.slice A9 N.length c9)).setCell (p := ⟨w8.heap.size, 1, none⟩) (Nat.le_refl _) (.int .i64 k)); (have R8 := OwnR.recs cPosting_len (OwnR.upd (OwnR.upd ho9 (upd_setCell w9 w8.heap.size 0 (.slice A9 N.length c9)) zo9 (.inr (by simp))) (upd_setCell _ w8.heap.size 1 (.int .i64 k)) zo9 (.inr (by simp)))); go_wp2_with fail; go_meet; exact ⟨_, A9, c9, rfl, rfl, k8, R8, S8⟩)
          | ((have k8 := BoxAt.new w9 47 [.slice A9 N.length c9, .int .i64 k]); (have S8 := S9.alloc (.cells #[.slice A9 N.length c9, .int .i64 k] 47)); (have R8 := (OwnR.recs cPosting_len ho9).same ((Same.refl w9).alloc (.cells #[.slice A9 N.length c9, .int .i64 k] 47))); go_wp2_with fail; go_meet; exact ⟨_, A9, c9, rfl, rfl, k8, R8, S8⟩)
    case rest =>
      obtain ⟨g12, A9, c9, rfl, rfl, h12, R9, S9⟩ := hcut
      clear HC HK e4 hk cy4
      have b1 := (hb.same S9).cell 1 rfl
      have y0 := (h6.same S9).cell 0 rfl
      have k0 := h12.cell 0 rfl
      have k1 := h12.cell 1 rfl
      have HBK := Lib.hid (show (ledgerOk N && inB k 0 3599) = true by rw [HNok.out]; simp [inB]; omega)
      rcases Int.lt_or_le q1 z with hmz | hmz
      · have hd : (decide (z ≤ q1)) = false := by simp; omega
        have e : m = z := by rw [HMX.out]; omega
        subst e
        rw [hd]
        clear hd
        have hbb : (m != m) = false := by simp
        go_wp2_with fail
        clear b1 y0 k0 k1
        refine (iClosedPart_any A9 c9 N k _ (by omega) R9).mono ?_
        obtain ⟨P, hP⟩ : ∃ P, P = closedPart N k := ⟨_, rfl⟩
        have hPl : (O.length : Int) ≤ (P.length : Int) := by have := HNm.out; rw [← hP] at this; omega
        rw [← hP]
        clear hP
        rintro e v1 ⟨B1, d1, rfl, _, t1⟩
        have T1 := S9.trans t1
        have k0 := (h7.same T1).cell 0 rfl
        have k1 := (h7.same T1).cell 1 rfl
        go_wp2_with fail
        clear k0 k1
        refine (iClosedPart_any A5 c5 M m _ (by omega) (R5.same T1)).mono ?_
        rw [HM.out]
        rintro e v2 ⟨B2, d2, rfl, o2, t2⟩
        have T2 := T1.trans t2
        go_wp2_with fail
        refine (samePostings_eq B2 B d2 d O _ (by omega) (OwnR.recs cPosting_len o2) (iO.same T2)).mono ?_
        rintro e v3 ⟨rfl, t3⟩
        have T3 := T2.trans t3.same
        have k0 := (h9.same T3).cell 0 rfl
        have k1 := (h9.same T3).cell 1 rfl
        go_wp2_with fail
        clear k0 k1
        refine (iClosedPart_any A7 c7 N m _ (by omega) (R7.same T3)).mono ?_
        rw [HN.out]
        rintro e v4 ⟨B4, d4, rfl, o4, t4⟩
        have T4 := T3.trans t4
        go_wp2_with fail
        refine (samePostings_eq B4 B d4 d O _ (by omega) (OwnR.recs cPosting_len o4) (iO.same T4)).mono ?_
        rintro e v5 ⟨rfl, t5⟩
        have T5 := T4.trans t5.same
        have t15 := ((t1.trans t2).trans t3.same).trans (t4.trans t5.same)
        have k0 := (h12.same t15).cell 0 rfl
        have k1 := (h12.same t15).cell 1 rfl
        go_wp2_with fail
        clear k0 k1
        refine (iBooksOk_any A9 c9 N k _ (by omega) (R9.same t15)).mono ?_
        rw [HBK.out]
        rintro e v6 ⟨rfl, t6⟩
        go_wp2
        go_ret
        exact ⟨rfl, (Sx.trans T5).trans t6⟩
      · have hd : (decide (z ≤ q1)) = true := by simp; omega
        have e : m = q1 := by rw [HMX.out]; omega
        subst e
        rw [hd]
        clear hd
        have hbb : (m != m) = false := by simp
        go_wp2_with fail
        clear b1 y0 k0 k1
        refine (iClosedPart_any A9 c9 N k _ (by omega) R9).mono ?_
        obtain ⟨P, hP⟩ : ∃ P, P = closedPart N k := ⟨_, rfl⟩
        have hPl : (O.length : Int) ≤ (P.length : Int) := by have := HNm.out; rw [← hP] at this; omega
        rw [← hP]
        clear hP
        rintro e v1 ⟨B1, d1, rfl, _, t1⟩
        have T1 := S9.trans t1
        have k0 := (h7.same T1).cell 0 rfl
        have k1 := (h7.same T1).cell 1 rfl
        go_wp2_with fail
        clear k0 k1
        refine (iClosedPart_any A5 c5 M z _ (by omega) (R5.same T1)).mono ?_
        rw [HM.out]
        rintro e v2 ⟨B2, d2, rfl, o2, t2⟩
        have T2 := T1.trans t2
        go_wp2_with fail
        refine (samePostings_eq B2 B d2 d O _ (by omega) (OwnR.recs cPosting_len o2) (iO.same T2)).mono ?_
        rintro e v3 ⟨rfl, t3⟩
        have T3 := T2.trans t3.same
        have k0 := (h9.same T3).cell 0 rfl
        have k1 := (h9.same T3).cell 1 rfl
        go_wp2_with fail
        clear k0 k1
        refine (iClosedPart_any A7 c7 N z _ (by omega) (R7.same T3)).mono ?_
        rw [HN.out]
        rintro e v4 ⟨B4, d4, rfl, o4, t4⟩
        have T4 := T3.trans t4
        go_wp2_with fail
        refine (samePostings_eq B4 B d4 d O _ (by omega) (OwnR.recs cPosting_len o4) (iO.same T4)).mono ?_
        rintro e v5 ⟨rfl, t5⟩
        have T5 := T4.trans t5.same
        have t15 := ((t1.trans t2).trans t3.same).trans (t4.trans t5.same)
        have k0 := (h12.same t15).cell 0 rfl
        have k1 := (h12.same t15).cell 1 rfl
        go_wp2_with fail
        clear k0 k1
        refine (iBooksOk_any A9 c9 N k _ (by omega) (R9.same t15)).mono ?_
        rw [HBK.out]
        rintro e v6 ⟨rfl, t6⟩
        go_wp2
        go_ret
        exact ⟨rfl, (Sx.trans T5).trans t6⟩
  · go_enter Try.func12, Try.ntmps12
    go_wp2_with (go_at_call 34; refine (big_yes A n c _ hn hbig).mono ?_; rintro e w' ⟨rfl, rfl⟩)
    go_ret
    exact ⟨rfl, Same.refl _⟩
end Go.Proofs.Ythelclibokkdnaa
