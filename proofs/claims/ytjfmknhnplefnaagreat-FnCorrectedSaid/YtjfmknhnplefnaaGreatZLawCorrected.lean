/-
  FnCorrected: for every list of bytes, the drawn case's corrections are antisymmetric and add up. No condition.
-/
import Derived.Test.YtjfmknhnplefnaaGreatZDrawC
import Derived.Test.YtjfmknhnplefnaaGreatZCorr
import Derived.Deep.RegionHeld3
import Derived.BigQuiet
namespace Go.Proofs.YtjfmknhnplefnaaGreat
open Go.RowKit
set_option linter.unusedVariables false

theorem corrs_at_flip {D : TCase} {f t a b : Int} {k : Nat} {x : TCorrection} (h : (corrs D f t a b)[k]? = some x) : (corrs D f t b a)[k]? = some (x.1, x.2.2, x.2.1) ∧ x.2.1 ≠ x.2.2 := by
  refine ⟨?_, (corrs_mem (List.mem_of_getElem? h)).2⟩
  rw [corrs_flip, List.getElem?_map, h]
  rfl
theorem corrs_len_flip (D : TCase) (f t a b : Int) : (corrs D f t b a).length = (corrs D f t a b).length := by rw [corrs_flip, List.length_map]

set_option maxRecDepth 10000 in
set_option maxHeartbeats 4000000 in
theorem lawCorrected (A : Option Addr) (n c : Nat) (w : World) (hn : n ≤ 9223372036854775807) (hA : BytesAt w w.heap.size A n) :
    Calls Tryz.prog 4 #[.slice A n c] w fun e w' => e = .returned (.bool true) ∧ Same w w' := by
  by_cases hbig : n ≤ 1048576
  · go_enter Tryz.func4, Tryz.ntmps4
    go_wp2_with fail
    refine (big_no A n c _ hbig).mono ?_
    rintro e w0 ⟨rfl, rfl⟩
    go_wp2_with fail
    refine (drawCase_any A n c _ hbig hA).mono ?_
    rintro e w1 ⟨D, m, rfl, o1, hD, s1⟩
    have hx := BoxAt.new w1 38 [.slice m.r D.R.length m.rc, .slice m.f D.F.length m.fc, .slice m.p D.P.length m.pc, .int .i64 D.birth, .int .i64 D.joined, .slice m.s D.S.length m.sc, .slice m.e D.E.length m.ec]
    have al := (Same.refl w1).alloc (.cells #[.slice m.r D.R.length m.rc, .slice m.f D.F.length m.fc, .slice m.p D.P.length m.pc, .int .i64 D.birth, .int .i64 D.joined, .slice m.s D.S.length m.sc, .slice m.e D.E.length m.ec] 38)
    have hcap := o1.rules.cap
    have hA1 := o1.at_.same al
    have S2 := s1.trans al
    clear s1 al o1
    go_wp2_with fail
    generalize w1.alloc (.cells #[.slice m.r D.R.length m.rc, .slice m.f D.F.length m.fc, .slice m.p D.P.length m.pc, .int .i64 D.birth, .int .i64 D.joined, .slice m.s D.S.length m.sc, .slice m.e D.E.length m.ec] 38) = w2 at *
    refine (drawPlaces_any A n c _ hbig (hA.keep' S2)).mono ?_
    rintro e w3 ⟨ps, Ap, cp, rfl, hpl, ho2, hs2⟩
    obtain ⟨p0, hp0, p00, p01⟩ := hpl.get (k := 0) (by omega)
    obtain ⟨p1, hp1, p10, p11⟩ := hpl.get (k := 1) (by omega)
    obtain ⟨h, rfl, _⟩ := ho2.at_ hp0
    have ca := ho2.cell hp0
    have cb := ho2.cell hp1
    have hl12 : (12 : Int) ≤ (ps.length : Int) := by have := hpl.1; omega
    obtain ⟨a, ha_⟩ : ∃ x, x = p0 % 100 := ⟨_, rfl⟩
    obtain ⟨b, hb_⟩ : ∃ k, k = p1 % 100 := ⟨_, rfl⟩
    have HXA := Lib.hid ha_
    have HXB := Lib.hid hb_
    clear ha_ hb_ hp0 hp1 hpl ho2
    have S3 := S2.trans hs2
    replace hx := hx.same hs2
    replace hA1 := hA1.same hs2
    clear hs2 S2
    generalize hg0 : w1.heap.size = gx at *
    clear hg0
    obtain ⟨X, hX⟩ : ∃ X, X = corrs D 20 80 a b := ⟨_, rfl⟩
    obtain ⟨Y, hY⟩ : ∃ Y, Y = corrs D 20 80 b a := ⟨_, rfl⟩
    obtain ⟨O, hO⟩ : ∃ O, O = ents D 20 80 a := ⟨_, rfl⟩
    obtain ⟨Q, hQ⟩ : ∃ Q, Q = ents D 20 80 b := ⟨_, rfl⟩
    have hlX : X.length ≤ 240 := by rw [hX]; exact corrs_short _ _ _ _ _
    have hlO : O.length ≤ 240 := by rw [hO]; exact ents_short _ _ _ _
    have HYX := Lib.hid (show Y.length = X.length by rw [hX, hY]; exact corrs_len_flip _ _ _ _ _)
    have HQO := Lib.hid (show Q.length = O.length by rw [hO, hQ]; exact ents_alike _ _ _ _ _)
    have hne : ((X.length : Int) != (Y.length : Int)) = false := by rw [HYX.out]; simp
    have HFL := Lib.hid (show ∀ (k : Nat) (x : TCorrection), X[k]? = some x → Y[k]? = some (x.1, x.2.2, x.2.1) ∧ x.2.1 ≠ x.2.2 from fun k x h => by rw [hX] at h; rw [hY]; exact corrs_at_flip h)
    have HRO := Lib.hid (show ∀ x ∈ O, 0 ≤ x ∧ x ≤ 10000000 by rw [hO]; exact ents_range _ _ _ _)
    have HRQ := Lib.hid (show ∀ x ∈ Q, 0 ≤ x ∧ x ≤ 10000000 by rw [hQ]; exact ents_range _ _ _ _)
    have HNX := Lib.hid (show netOf X = sumUp Q O.length - sumUp O O.length by rw [hX, hO, hQ]; exact corrs_net _ _ _ _ _)
    have HNY := Lib.hid (show netOf Y = -netOf X by rw [hX, hY]; exact corrs_net_flip _ _ _ _ _)
    have HFN := Lib.hid (show (firstOf X == -1) = ((X.length : Int) == 0) by rw [hX]; exact firstOf_none)
    have HX := Lib.hid hX
    have HY := Lib.hid hY
    have HO := Lib.hid hO
    have HQ := Lib.hid hQ
    clear hX hY hO hQ
    have a0 := hx.cell 0 rfl
    have a1 := hx.cell 1 rfl
    have a2 := hx.cell 2 rfl
    have a3 := hx.cell 3 rfl
    have a4 := hx.cell 4 rfl
    have a5 := hx.cell 5 rfl
    have a6 := hx.cell 6 rfl
    have aL := hx.lt
    go_wp2_with fail
    clear a0 a1 a2 a3 a4 a5 a6 aL ca cb
    rw [← HXA.out, ← HXB.out]
    refine (iCorrs_any D m 20 80 a b _ hD hcap hA1).mono ?_
    rw [← HX.out]
    rintro e w4 ⟨A4, c4, rfl, oX, t4⟩
    replace hx := hx.same t4
    have S4 := S3.trans t4
    replace hA1 := hA1.same t4
    clear t4 S3
    have a0 := hx.cell 0 rfl
    have a1 := hx.cell 1 rfl
    have a2 := hx.cell 2 rfl
    have a3 := hx.cell 3 rfl
    have a4 := hx.cell 4 rfl
    have a5 := hx.cell 5 rfl
    have a6 := hx.cell 6 rfl
    have aL := hx.lt
    go_wp2_with fail
    clear a0 a1 a2 a3 a4 a5 a6 aL
    refine (iCorrs_any D m 20 80 b a _ hD hcap hA1).mono ?_
    rw [← HY.out]
    rintro e w5 ⟨A5, c5, rfl, oY, t5⟩
    replace hx := hx.same t5
    have S5 := S4.trans t5
    replace hA1 := hA1.same t5
    have rX := (OwnR.recs cCorrection_len oX).same t5
    have rY := OwnR.recs cCorrection_len oY
    clear t5 S4 oX oY
    go_wp2
    go_loopw [9] (fun i wr => ∃ k : Nat, k ≤ X.length ∧ i = .int .i64 k ∧ Same w5 wr) (fun i _ => X.length - (intOf i).toNat)
    case atStart => exact ⟨0, Nat.zero_le _, rfl, Same.refl _⟩
    case round =>
      obtain ⟨k, hk, rfl, hs⟩ := hrel
      by_cases hlt : k < X.length
      · obtain ⟨g1, o1, z, rfl, hc, HZ, _⟩ := (rX.same hs).at_ hlt
        obtain ⟨g2, o2, y, rfl, hc', HY2, _⟩ := (rY.same hs).at_ (k := k) (by have := HYX.out; omega)
        obtain ⟨hfl, hpq⟩ := HFL.out k z HZ.out
        have hyz : y = (z.1, z.2.2, z.2.1) := Option.some.inj (HY2.out.symm.trans hfl)
        subst hyz
        obtain ⟨mo, p, q⟩ := z
        dsimp only at hpq hc'
        have c0 := hc 0 _ rfl
        have c1 := hc 1 _ rfl
        have c2 := hc 2 _ rfl
        have e0 := hc' 0 _ rfl
        have e1 := hc' 1 _ rfl
        have e2 := hc' 2 _ rfl
        simp only [Nat.add_zero] at c0 e0
        have d0 : (mo != mo) = false := by simp
        have d1 : (p != p) = false := by simp
        have d2 : (q != q) = false := by simp
        have d3 : (p == q) = false := by rw [beq_eq_false_iff_ne]; exact hpq
        have k0 : (0 : Int) ≤ (k : Int) := by omega
        have k1 : (k : Int) < (X.length : Int) := by omega
        have k2 : (k : Int) < (Y.length : Int) := by have := HYX.out; omega
        clear hc hc' HZ HY2 hfl hpq rX rY
        go_wp2
        go_quiet (fail)
        go_wp2
        go_roundw
        case rel => exact ⟨k + 1, hlt, by go_num, hs.drewN _⟩
        case measure => simp [intOf]; omega
      · have hx6 := hx.same hs
        have hA6 := hA1.same hs
        have S6 := S5.trans hs
        have rX6 := rX.same hs
        have rY6 := rY.same hs
        clear hx hA1 S5 rX rY hs
        have a0 := (hx6).cell 0 rfl
        have a1 := (hx6).cell 1 rfl
        have a2 := (hx6).cell 2 rfl
        have a3 := (hx6).cell 3 rfl
        have a4 := (hx6).cell 4 rfl
        have a5 := (hx6).cell 5 rfl
        have a6 := (hx6).cell 6 rfl
        have aL := (hx6).lt
        go_wp2_with fail
        clear a0 a1 a2 a3 a4 a5 a6 aL
        refine (iFirst_any D m 20 80 a b _ hD hcap hA6).mono ?_
        rw [← HX.out]
        obtain ⟨fi, hfi⟩ : ∃ x, x = firstOf X := ⟨_, rfl⟩
        rw [← hfi] at HFN ⊢
        clear hfi
        rintro e w7 ⟨rfl, t7⟩
        go_wp2_with fail
        refine (sNetOf_any A4 c4 X _ (by omega) (rX6.same t7)).mono ?_
        obtain ⟨sm, hsm⟩ : ∃ x, x = netOf X := ⟨_, rfl⟩
        rw [← hsm] at HNX HNY ⊢
        clear hsm
        rintro e w8 ⟨rfl, t8⟩
        have T8 := t7.trans t8
        have a0 := (hx6.same T8).cell 0 rfl
        have a1 := (hx6.same T8).cell 1 rfl
        have a2 := (hx6.same T8).cell 2 rfl
        have a3 := (hx6.same T8).cell 3 rfl
        have a4 := (hx6.same T8).cell 4 rfl
        have a5 := (hx6.same T8).cell 5 rfl
        have a6 := (hx6.same T8).cell 6 rfl
        have aL := (hx6.same T8).lt
        go_wp2_with fail
        clear a0 a1 a2 a3 a4 a5 a6 aL
        refine (sEnts_any D m 20 80 a _ hD hcap (hA6.same T8)).mono ?_
        rw [← HO.out]
        rintro e w9 ⟨A9, c9, rfl, oO, t9⟩
        have T9 := T8.trans t9
        have rO := oO.ints
        have a0 := (hx6.same T9).cell 0 rfl
        have a1 := (hx6.same T9).cell 1 rfl
        have a2 := (hx6.same T9).cell 2 rfl
        have a3 := (hx6.same T9).cell 3 rfl
        have a4 := (hx6.same T9).cell 4 rfl
        have a5 := (hx6.same T9).cell 5 rfl
        have a6 := (hx6.same T9).cell 6 rfl
        have aL := (hx6.same T9).lt
        go_wp2_with fail
        clear a0 a1 a2 a3 a4 a5 a6 aL
        refine (sEnts_any D m 20 80 b _ hD hcap (hA6.same T9)).mono ?_
        rw [← HQ.out]
        rintro e w10 ⟨A10, c10, rfl, oQ, t10⟩
        have T10 := T9.trans t10
        replace rO := rO.same t10
        have rQ := oQ.ints
        have hx10 := hx6.same T10
        have hA10 := hA6.same T10
        have S10 := S6.trans T10
        have rY10 := rY6.same T10
        clear t7 t8 t9 t10 T8 T9 T10 oO oQ hx6 hA6 S6 rX6 rY6
        have HBO := Lib.hid (fun (k : Nat) => sumUp_range HRO.out k)
        have HBQ := Lib.hid (fun (k : Nat) => sumUp_range HRQ.out k)
        go_wp2
        go_loopw [14, 15] (fun d i wr => ∃ k : Nat, k ≤ O.length ∧ i = .int .i64 k ∧ d = .int .i64 (sumUp Q k - sumUp O k) ∧ Same w10 wr) (fun _ i _ => O.length - (intOf i).toNat)
        case atStart => exact ⟨0, Nat.zero_le _, rfl, rfl, Same.refl _⟩
        case round =>
          obtain ⟨k, hk, rfl, rfl, hs⟩ := hrel
          by_cases hlt : k < O.length
          · obtain ⟨g1, o1, y, rfl, c0, HYk, _⟩ := (rO.same hs).at_ hlt
            obtain ⟨g2, o2, z, rfl, e0, HZk, _⟩ := (rQ.same hs).at_ (k := k) (by have := HQO.out; omega)
            have u1 := HBO.out k
            have u2 := HBQ.out k
            have v1 := HRO.out y (List.mem_of_getElem? HYk.out)
            have v2 := HRQ.out z (List.mem_of_getElem? HZk.out)
            have HN := Lib.hid (show sumUp Q (k + 1) - sumUp O (k + 1) = sumUp Q k - sumUp O k + z - y by rw [sumUp_succ HYk.out, sumUp_succ HZk.out]; omega)
            obtain ⟨dd, hdd⟩ : ∃ x, x = sumUp Q k - sumUp O k := ⟨_, rfl⟩
            have hb : -10000000000 ≤ dd ∧ dd ≤ 10000000000 := by omega
            rw [← hdd] at HN ⊢
            clear hdd u1 u2 HYk HZk
            have k0 : (0 : Int) ≤ (k : Int) := by omega
            have k1 : (k : Int) < (O.length : Int) := by omega
            have k2 : (k : Int) < (Q.length : Int) := by have := HQO.out; omega
            have w1_ : IntKind.i64.wrap (dd + z) = dd + z := IntWalk.i64_in _ (by omega)
            have w2_ : IntKind.i64.wrap (dd + z - y) = dd + z - y := IntWalk.i64_in _ (by omega)
            clear rO rQ
            go_wp2
            go_quiet (fail)
            go_wp2
            go_roundw
            case rel => exact ⟨k + 1, hlt, by go_num, by rw [HN.out], hs.drewN _⟩
            case measure => simp [intOf]; omega
          · have hko : k = O.length := by omega
            have hd : sumUp Q k - sumUp O k = sm := by rw [hko, HNX.out]
            have hsm : -2400000000 ≤ sm ∧ sm ≤ 2400000000 := by
              have u1 := HBO.out O.length
              have u2 := HBQ.out O.length
              have := HNX.out
              omega
            rw [hd]
            have km : IntKind.i64.wrap (-sm) = -sm := IntWalk.i64_in _ (by omega)
            have kb : ((-sm) == (-sm)) = true := by simp
            have kc : (sm == sm) = true := by simp
            have kf : ((fi == -1) == ((X.length : Int) == 0)) = true := by rw [HFN.out]; simp
            clear hd hko
            go_wp2_with fail
            refine (iNetOf_any A5 c5 Y _ (by have := HYX.out; omega) (rY10.same hs)).mono ?_
            rw [HNY.out]
            rintro e w11 ⟨rfl, t11⟩
            have T11 := hs.trans t11
            have a0 := (hx10.same T11).cell 0 rfl
            have a1 := (hx10.same T11).cell 1 rfl
            have a2 := (hx10.same T11).cell 2 rfl
            have a3 := (hx10.same T11).cell 3 rfl
            have a4 := (hx10.same T11).cell 4 rfl
            have a5 := (hx10.same T11).cell 5 rfl
            have a6 := (hx10.same T11).cell 6 rfl
            have aL := (hx10.same T11).lt
            go_wp2_with fail
            clear a0 a1 a2 a3 a4 a5 a6 aL
            refine (iCorrs_any D m 20 80 a a _ hD hcap (hA10.same T11)).mono ?_
            rw [corrs_same]
            rintro e w12 ⟨A12, c12, rfl, o12, t12⟩
            clear o12
            go_wp2
            go_ret
            exact ⟨rfl, S10.trans (T11.trans t12)⟩
  · go_enter Tryz.func4, Tryz.ntmps4
    go_wp2_with fail
    refine (big_yes A n c _ hn hbig).mono ?_
    rintro e w0 ⟨rfl, rfl⟩
    go_wp2
    go_ret
    exact ⟨rfl, Same.refl _⟩
end Go.Proofs.YtjfmknhnplefnaaGreat
