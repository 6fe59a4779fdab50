/-
  Postings: PostingOk, ReversalOf, their copies and comparisons, alone and in lists.
-/
import Derived.Test.YthelclibokkdnaaBox
import Derived.Test.YthelclibokkdnaaBase
import Derived.StillTailTactics
namespace Go.Proofs.Ythelclibokkdnaa
open Go.RowKit

abbrev TPosting := Int × Int × Int × Int
def postingOk (p : TPosting) : Bool := inB p.1 0 3599 && inB p.2.1 1 9 && inB p.2.2.1 1 9 && p.2.1 != p.2.2.1 && inB p.2.2.2 1 1000000000
theorem postingOk_iff {m d c z : Int} : postingOk (m, d, c, z) = true ↔ (0 ≤ m ∧ m ≤ 3599) ∧ (1 ≤ d ∧ d ≤ 9) ∧ (1 ≤ c ∧ c ≤ 9) ∧ d ≠ c ∧ 1 ≤ z ∧ z ≤ 1000000000 := by
  simp [postingOk, inB, and_assoc]

def cPosting (x : TPosting) : List Value := [.int .i64 x.1, .int .i64 x.2.1, .int .i64 x.2.2.1, .int .i64 x.2.2.2]
theorem cPosting_len (x : TPosting) : (cPosting x).length = 4 := rfl
theorem cPosting_one (x : TPosting) : ∀ u ∈ cPosting x, u.oneCell' = true := by
  intro u hu
  simp only [cPosting, List.mem_cons, List.not_mem_nil, or_false] at hu
  rcases hu with rfl | rfl | rfl | rfl <;> rfl
theorem Try.infoPosting : (Try.prog.info? 25).map (fun i => (i.zero, i.size, i.bytes)) = some (some (.agg #[.int .i64 0, .int .i64 0, .int .i64 0, .int .i64 0]), 4, 32) := by kernel_rfl
abbrev OwnPosting (w : World) (base : Nat) (v : Value) (L : List TPosting) : Prop := OwnR 25 4 cPosting w base v L
abbrev AtPosting (w : World) (A : Option Addr) (L : List TPosting) : Prop := RecAt 4 cPosting w A L

theorem szPostingS_any (A : Option Addr) (n c : Nat) (l : Int) (w : World) (hn : n ≤ 9223372036854775807) (h0 : 0 ≤ l) (h1 : l ≤ 1048576) :
    Calls Try.prog 64 #[.slice A n c, .int .i64 l] w fun e w' => e = .returned (.int .i64 (if (n : Int) ≤ l then l - n else -1)) ∧ w = w' := by
  by_cases h : (n : Int) ≤ l
  · go_enter Try.func64, Try.ntmps64
    go_wp2
    go_ret
    exact ⟨rfl, rfl⟩
  · go_enter Try.func64, Try.ntmps64
    go_wp2
    go_ret
    exact ⟨rfl, rfl⟩

theorem toPosting_any (f0 f1 f2 f3 : Int) (w : World) : Calls Try.prog 17 #[.agg #[.int .i64 f0, .int .i64 f1, .int .i64 f2, .int .i64 f3]] w fun e w' => e = .returned (.agg #[.int .i64 f0, .int .i64 f1, .int .i64 f2, .int .i64 f3]) ∧ Same w w' := by
  go_enter Try.func17, Try.ntmps17
  go_wp2
  exact bodyPost_ret (v := .agg #[.int .i64 f0, .int .i64 f1, .int .i64 f2, .int .i64 f3]) (by simp [results, Try.results17, go_sem]) rfl ⟨rfl, (((Same.refl w).alloc _).alloc _).alloc _⟩

set_option maxHeartbeats 1000000 in
theorem toPostingS_any (A : Option Addr) (c : Nat) (L : List TPosting) (w : World) (hz : L.length ≤ 1048576) (hA : AtPosting w A L) :
    Calls Try.prog 65 #[.slice A L.length c] w fun e w' => e = .returned (.slice (some ⟨w.heap.size, 0, none⟩) L.length L.length) ∧
      OwnPosting w' w.heap.size (.slice (some ⟨w.heap.size, 0, none⟩) L.length L.length) L ∧ Same w w' := by
  obtain ⟨i0, hi, hz0, hz1, hz2⟩ := info_parts Try.infoPosting
  go_enter Try.func65, Try.ntmps65
  go_wp2_with (at_make; refine wpList_make_full _ rfl _ _ 36 rfl w.heap.size 25 i0 (.agg #[.int .i64 0, .int .i64 0, .int .i64 0, .int .i64 0]) 4 Try.underlying36 hi hz0 hz1 _ _ _ _ L.length rfl rfl rfl rfl ?b2 ?b3 ?b4 ?_)
  case b2 => rw [hz2]; omega
  case b3 => unfold maxLen; omega
  case b4 => exact Nat.le_refl _
  intro w1 hown hgrow
  have hs1 : Same w w1 := (Same.refl w).grown hgrow (fun g h => by cases h)
  have hown1 : OwnPosting w1 w.heap.size (.slice (some ⟨w.heap.size, 0, none⟩) L.length L.length) (List.replicate L.length (0, 0, 0, 0)) := by
    have hm := madeCells_flat (s := 4) (cells := cPosting) (cPosting (0, 0, 0, 0)) (0, 0, 0, 0) rfl rfl (by omega) L.length
    show World.ownsRow _ _ _ _ _ _ _
    rw [List.length_replicate, ← hm]
    exact hown
  clear hown hgrow
  go_wp2
  go_loopw [4] (fun i wr => ∃ k : Nat, k ≤ L.length ∧ i = .int .i64 k ∧
      OwnPosting wr w.heap.size (.slice (some ⟨w.heap.size, 0, none⟩) L.length L.length) (mix L (List.replicate L.length (0, 0, 0, 0)) k) ∧ Same w wr) (fun i _ => L.length - (intOf i).toNat)
  case atStart => exact ⟨0, Nat.zero_le _, rfl, by rw [mix_zero]; exact hown1, hs1⟩
  case round =>
    obtain ⟨k, hk, rfl, hown, hs⟩ := hrel
    by_cases hlt : k < L.length
    · obtain ⟨b, off, x, rfl, hc, HX, hb⟩ := (hA.same hs).at_ hlt
      clear hA hown1
      obtain ⟨f0, f1, f2, f3⟩ := x
      have c0 := hc 0 _ rfl
      have c1 := hc 1 _ rfl
      have c2 := hc 2 _ rfl
      have c3 := hc 3 _ rfl
      simp only [Nat.add_zero] at c0
      clear hc
      go_wp2_with fail
      refine (toPosting_any f0 f1 f2 f3 _).mono ?_
      rintro e w2 ⟨rfl, hs2⟩
      have hown2 := hown.same hs2
      have hss := hs.trans hs2
      clear hown hs2 hs c0 c1 c2 c3
      obtain ⟨u, hu⟩ : ∃ u, (mix L (List.replicate L.length (0, 0, 0, 0)) k)[k]? = some u := ⟨_, List.getElem?_eq_getElem (by rw [mix_length (by simp) (by omega)]; exact hlt)⟩
      obtain ⟨u0_, u1_, u2_, u3_⟩ := u
      obtain ⟨_, _, hd, hf⟩ := hown2.atg cPosting_len hu
      have hst := hown2.set cPosting_len (k := k) (by rw [mix_length (by simp) (by omega)]; exact hlt) (f0, f1, f2, f3)
      clear hown2 hu
      have d0 := hd 0 _ rfl
      have d1 := hd 1 _ rfl
      have d2 := hd 2 _ rfl
      have d3 := hd 3 _ rfl
      simp only [Nat.add_zero] at d0
      clear hd
      have hf0 := hf (k * 4)
      have hf1 := hf (k * 4 + 1)
      have hf2 := hf (k * 4 + 2)
      have hf3 := hf (k * 4 + 3)
      clear hf
      go_wp2
      go_roundw
      case rel =>
        refine ⟨k + 1, hlt, by go_num, ?_, hss.grown hst.out.2 (fun g hg => by injection hg with hg; omega)⟩
        have := hst.out.1
        rw [mix_set HX.out (by simp)] at this
        exact this
      case measure => simp [intOf]; omega
    · go_wp2
      go_ret
      refine ⟨rfl, ?_, hs⟩
      rwa [mix_full _ _ (by omega) (by simp)] at hown

set_option maxHeartbeats 400000 in
theorem eqPosting_any (f0 f1 f2 f3 g0 g1 g2 g3 : Int) (w : World) : Calls Try.prog 21 #[.agg #[.int .i64 f0, .int .i64 f1, .int .i64 f2, .int .i64 f3], .agg #[.int .i64 g0, .int .i64 g1, .int .i64 g2, .int .i64 g3]] w fun e w' => e = .returned (.bool (decide (((f0, f1, f2, f3) : TPosting) = (g0, g1, g2, g3)))) ∧ Same w w' := by
  by_cases h0 : f0 = g0
  · subst h0
    have b0 : (f0 != f0) = false := by simp
    by_cases h1 : f1 = g1
    · subst h1
      have b1 : (f1 != f1) = false := by simp
      by_cases h2 : f2 = g2
      · subst h2
        have b2 : (f2 != f2) = false := by simp
        by_cases h3 : f3 = g3
        · subst h3
          have b3 : (f3 != f3) = false := by simp
          go_enter Try.func21, Try.ntmps21
          go_wp2
          go_ret
          exact ⟨rfl, ((Same.refl w).alloc _).alloc _⟩
        · have b3 : (f3 != g3) = true := by simp [h3]
          have HN := Lib.hid h3
          clear h3
          go_enter Try.func21, Try.ntmps21
          go_wp2
          go_ret
          exact ⟨ret_bool (Eq.symm (decide_eq_false (fun e => HN.out (by simpa using congrArg (fun x : TPosting => x.2.2.2) e)))), ((Same.refl w).alloc _).alloc _⟩
      · have b2 : (f2 != g2) = true := by simp [h2]
        have HN := Lib.hid h2
        clear h2
        go_enter Try.func21, Try.ntmps21
        go_wp2
        go_ret
        exact ⟨ret_bool (Eq.symm (decide_eq_false (fun e => HN.out (by simpa using congrArg (fun x : TPosting => x.2.2.1) e)))), ((Same.refl w).alloc _).alloc _⟩
    · have b1 : (f1 != g1) = true := by simp [h1]
      have HN := Lib.hid h1
      clear h1
      go_enter Try.func21, Try.ntmps21
      go_wp2
      go_ret
      exact ⟨ret_bool (Eq.symm (decide_eq_false (fun e => HN.out (by simpa using congrArg (fun x : TPosting => x.2.1) e)))), ((Same.refl w).alloc _).alloc _⟩
  · have b0 : (f0 != g0) = true := by simp [h0]
    have HN := Lib.hid h0
    clear h0
    go_enter Try.func21, Try.ntmps21
    go_wp2
    go_ret
    exact ⟨ret_bool (Eq.symm (decide_eq_false (fun e => HN.out (by simpa using congrArg (fun x : TPosting => x.1) e)))), ((Same.refl w).alloc _).alloc _⟩

set_option maxRecDepth 10000 in
set_option maxHeartbeats 1000000 in
theorem eqPostingS_any (A B : Option Addr) (c d : Nat) (xs ys : List TPosting) (w : World) (hx : xs.length ≤ 9223372036854775807) (hy : ys.length ≤ 9223372036854775807) (hA : AtPosting w A xs) (hB : AtPosting w B ys) :
    Calls Try.prog 56 #[.slice A xs.length c, .slice B ys.length d] w fun e w' => e = .returned (.bool (decide (xs = ys))) ∧ Same w w' := by
  by_cases hl : xs.length = ys.length
  · have hne : ((xs.length : Int) != (ys.length : Int)) = false := by rw [hl]; simp
    have HL := Lib.hid hl
    clear hl
    go_enter Try.func56, Try.ntmps56
    go_wp2
    go_loopw [5] (fun i wr => ∃ k : Nat, k ≤ xs.length ∧ i = .int .i64 k ∧ Hid (xs.take k = ys.take k) ∧ Same w wr) (fun i _ => xs.length - (intOf i).toNat)
    case atStart => exact ⟨0, Nat.zero_le _, rfl, rfl, Same.refl _⟩
    case round =>
      obtain ⟨k, hk, rfl, hall, hd⟩ := hrel
      by_cases hlt : k < xs.length
      · obtain ⟨b, off, x, rfl, hc, HX, _⟩ := (hA.same hd).at_ hlt
        have hlt' : k < ys.length := by have := HL.out; omega
        obtain ⟨b', off', y, rfl, hc', HY, _⟩ := (hB.same hd).at_ hlt'
        clear hA hB
        obtain ⟨f0, f1, f2, f3⟩ := x
        obtain ⟨g0, g1, g2, g3⟩ := y
        have c0 := hc 0 _ rfl
        have c1 := hc 1 _ rfl
        have c2 := hc 2 _ rfl
        have c3 := hc 3 _ rfl
        simp only [Nat.add_zero] at c0
        clear hc
        have e0 := hc' 0 _ rfl
        have e1 := hc' 1 _ rfl
        have e2 := hc' 2 _ rfl
        have e3 := hc' 3 _ rfl
        simp only [Nat.add_zero] at e0
        clear hc'
        go_wp2
        go_still_tail 8, (by kernel_rfl)
        change wpList _ _ _ _ _ wr.drew
        have hdr : Same w wr.drew := hd.drew
        generalize wr.drew = w2 at *
        go_wp2_with fail
        refine (eqPosting_any f0 f1 f2 f3 g0 g1 g2 g3 _).mono ?_
        rintro e w3 ⟨rfl, hs3⟩
        have hss := hdr.trans hs3
        clear c0 e0 c1 e1 c2 e2 c3 e3 hs3 hdr hd
        by_cases hxy : ((f0, f1, f2, f3) : TPosting) = (g0, g1, g2, g3)
        · rw [decide_eq_true hxy]
          have HXY := Lib.hid hxy
          clear hxy
          go_wp2
          go_roundw
          case rel => exact ⟨k + 1, hlt, by go_num, take_eq_succ hall.out HX.out (by rw [HXY.out]; exact HY.out), hss⟩
          case measure => simp [intOf]; omega
        · rw [decide_eq_false hxy]
          have HN := Lib.hid hxy
          clear hxy
          go_wp2
          go_ret
          refine ⟨ret_bool (Eq.symm (decide_eq_false (fun e => HN.out ?_))), hss⟩
          subst e
          exact Option.some.inj (HX.out.symm.trans HY.out)
      · go_wp2
        go_ret
        refine ⟨ret_bool (Eq.symm (decide_eq_true ?_)), hd⟩
        have h1 := hall.out
        have h2 := HL.out
        rw [show k = xs.length by omega, List.take_length, h2, List.take_length] at h1
        exact h1
  · have hne : ((xs.length : Int) != (ys.length : Int)) = true := by simp; omega
    have HL := Lib.hid hl
    clear hl
    go_enter Try.func56, Try.ntmps56
    go_wp2
    go_ret
    exact ⟨ret_bool (Eq.symm (decide_eq_false (fun e => HL.out (by rw [e])))), Same.refl _⟩

set_option maxHeartbeats 400000 in
theorem sPostingOk_any (m d c z : Int) (w : World) : Calls Try.prog 16 #[.agg #[.int .i64 m, .int .i64 d, .int .i64 c, .int .i64 z]] w fun e w' => e = .returned (.bool (postingOk (m, d, c, z))) ∧ Same w w' := by
  cases m1 : inB m 0 3599
  · go_enter Try.func16, Try.ntmps16
    go_wp2_with fail
    refine (sMonthOk_any _ _).mono ?_
    rintro e w0 ⟨rfl, rfl⟩
    rw [m1]
    go_wp2
    go_ret
    exact ⟨ret_bool (by simp only [postingOk, m1]; rfl), (Same.refl w).alloc _⟩
  · cases m2 : inB d 1 9
    · go_enter Try.func16, Try.ntmps16
      go_wp2_with fail
      refine (sMonthOk_any _ _).mono ?_
      rintro e w0 ⟨rfl, rfl⟩
      rw [m1]
      go_wp2_with fail
      refine (l01In_any _ _ _ _).mono ?_
      rintro e w1 ⟨rfl, rfl⟩
      rw [m2]
      go_wp2
      go_ret
      exact ⟨ret_bool (by simp only [postingOk, m1, m2]; rfl), (Same.refl w).alloc _⟩
    · cases m3 : inB c 1 9
      · go_enter Try.func16, Try.ntmps16
        go_wp2_with fail
        refine (sMonthOk_any _ _).mono ?_
        rintro e w0 ⟨rfl, rfl⟩
        rw [m1]
        go_wp2_with fail
        refine (l01In_any _ _ _ _).mono ?_
        rintro e w1 ⟨rfl, rfl⟩
        rw [m2]
        go_wp2_with fail
        refine (l01In_any _ _ _ _).mono ?_
        rintro e w2 ⟨rfl, rfl⟩
        rw [m3]
        go_wp2
        go_ret
        exact ⟨ret_bool (by simp only [postingOk, m1, m2, m3]; rfl), (Same.refl w).alloc _⟩
      · cases m4 : (d != c)
        · go_enter Try.func16, Try.ntmps16
          go_wp2_with fail
          refine (sMonthOk_any _ _).mono ?_
          rintro e w0 ⟨rfl, rfl⟩
          rw [m1]
          go_wp2_with fail
          refine (l01In_any _ _ _ _).mono ?_
          rintro e w1 ⟨rfl, rfl⟩
          rw [m2]
          go_wp2_with fail
          refine (l01In_any _ _ _ _).mono ?_
          rintro e w2 ⟨rfl, rfl⟩
          rw [m3]
          go_wp2
          go_ret
          exact ⟨ret_bool (by simp only [postingOk, m1, m2, m3, m4]; rfl), (Same.refl w).alloc _⟩
        · cases m5 : inB z 1 1000000000
          · go_enter Try.func16, Try.ntmps16
            go_wp2_with fail
            refine (sMonthOk_any _ _).mono ?_
            rintro e w0 ⟨rfl, rfl⟩
            rw [m1]
            go_wp2_with fail
            refine (l01In_any _ _ _ _).mono ?_
            rintro e w1 ⟨rfl, rfl⟩
            rw [m2]
            go_wp2_with fail
            refine (l01In_any _ _ _ _).mono ?_
            rintro e w2 ⟨rfl, rfl⟩
            rw [m3]
            go_wp2_with fail
            refine (l01In_any _ _ _ _).mono ?_
            rintro e w3 ⟨rfl, rfl⟩
            rw [m5]
            go_wp2
            go_ret
            exact ⟨ret_bool (by simp only [postingOk, m1, m2, m3, m4, m5]; rfl), (Same.refl w).alloc _⟩
          · go_enter Try.func16, Try.ntmps16
            go_wp2_with fail
            refine (sMonthOk_any _ _).mono ?_
            rintro e w0 ⟨rfl, rfl⟩
            rw [m1]
            go_wp2_with fail
            refine (l01In_any _ _ _ _).mono ?_
            rintro e w1 ⟨rfl, rfl⟩
            rw [m2]
            go_wp2_with fail
            refine (l01In_any _ _ _ _).mono ?_
            rintro e w2 ⟨rfl, rfl⟩
            rw [m3]
            go_wp2_with fail
            refine (l01In_any _ _ _ _).mono ?_
            rintro e w3 ⟨rfl, rfl⟩
            rw [m5]
            go_wp2
            go_ret
            exact ⟨ret_bool (by simp only [postingOk, m1, m2, m3, m4, m5]; rfl), (Same.refl w).alloc _⟩

set_option maxHeartbeats 400000 in
theorem iPostingOk_any (m d c z : Int) (w : World) : Calls Try.prog 18 #[.agg #[.int .i64 m, .int .i64 d, .int .i64 c, .int .i64 z]] w fun e w' => e = .returned (.bool (postingOk (m, d, c, z))) ∧ Same w w' := by
  cases m1 : inB m 0 3599
  · go_enter Try.func18, Try.ntmps18
    go_wp2_with fail
    refine (iMonthOk_any _ _).mono ?_
    rintro e w0 ⟨rfl, rfl⟩
    rw [m1]
    go_wp2
    go_ret
    exact ⟨ret_bool (by simp only [postingOk, m1]; rfl), (Same.refl w).alloc _⟩
  · cases m2 : inB d 1 9
    · go_enter Try.func18, Try.ntmps18
      go_wp2_with fail
      refine (iMonthOk_any _ _).mono ?_
      rintro e w0 ⟨rfl, rfl⟩
      rw [m1]
      go_wp2_with fail
      refine (within_any _ _ _ _).mono ?_
      rintro e w1 ⟨rfl, rfl⟩
      rw [m2]
      go_wp2
      go_ret
      exact ⟨ret_bool (by simp only [postingOk, m1, m2]; rfl), (Same.refl w).alloc _⟩
    · cases m3 : inB c 1 9
      · go_enter Try.func18, Try.ntmps18
        go_wp2_with fail
        refine (iMonthOk_any _ _).mono ?_
        rintro e w0 ⟨rfl, rfl⟩
        rw [m1]
        go_wp2_with fail
        refine (within_any _ _ _ _).mono ?_
        rintro e w1 ⟨rfl, rfl⟩
        rw [m2]
        go_wp2_with fail
        refine (within_any _ _ _ _).mono ?_
        rintro e w2 ⟨rfl, rfl⟩
        rw [m3]
        go_wp2
        go_ret
        exact ⟨ret_bool (by simp only [postingOk, m1, m2, m3]; rfl), (Same.refl w).alloc _⟩
      · cases m4 : (d != c)
        · go_enter Try.func18, Try.ntmps18
          go_wp2_with fail
          refine (iMonthOk_any _ _).mono ?_
          rintro e w0 ⟨rfl, rfl⟩
          rw [m1]
          go_wp2_with fail
          refine (within_any _ _ _ _).mono ?_
          rintro e w1 ⟨rfl, rfl⟩
          rw [m2]
          go_wp2_with fail
          refine (within_any _ _ _ _).mono ?_
          rintro e w2 ⟨rfl, rfl⟩
          rw [m3]
          go_wp2
          go_ret
          exact ⟨ret_bool (by simp only [postingOk, m1, m2, m3, m4]; rfl), (Same.refl w).alloc _⟩
        · cases m5 : inB z 1 1000000000
          · go_enter Try.func18, Try.ntmps18
            go_wp2_with fail
            refine (iMonthOk_any _ _).mono ?_
            rintro e w0 ⟨rfl, rfl⟩
            rw [m1]
            go_wp2_with fail
            refine (within_any _ _ _ _).mono ?_
            rintro e w1 ⟨rfl, rfl⟩
            rw [m2]
            go_wp2_with fail
            refine (within_any _ _ _ _).mono ?_
            rintro e w2 ⟨rfl, rfl⟩
            rw [m3]
            go_wp2_with fail
            refine (within_any _ _ _ _).mono ?_
            rintro e w3 ⟨rfl, rfl⟩
            rw [m5]
            go_wp2
            go_ret
            exact ⟨ret_bool (by simp only [postingOk, m1, m2, m3, m4, m5]; rfl), (Same.refl w).alloc _⟩
          · go_enter Try.func18, Try.ntmps18
            go_wp2_with fail
            refine (iMonthOk_any _ _).mono ?_
            rintro e w0 ⟨rfl, rfl⟩
            rw [m1]
            go_wp2_with fail
            refine (within_any _ _ _ _).mono ?_
            rintro e w1 ⟨rfl, rfl⟩
            rw [m2]
            go_wp2_with fail
            refine (within_any _ _ _ _).mono ?_
            rintro e w2 ⟨rfl, rfl⟩
            rw [m3]
            go_wp2_with fail
            refine (within_any _ _ _ _).mono ?_
            rintro e w3 ⟨rfl, rfl⟩
            rw [m5]
            go_wp2
            go_ret
            exact ⟨ret_bool (by simp only [postingOk, m1, m2, m3, m4, m5]; rfl), (Same.refl w).alloc _⟩

theorem sReversal_any (m d c z n : Int) (w : World) : Calls Try.prog 19 #[.agg #[.int .i64 m, .int .i64 d, .int .i64 c, .int .i64 z], .int .i64 n] w fun e w' =>
    e = .returned (.agg #[.int .i64 n, .int .i64 c, .int .i64 d, .int .i64 z]) ∧ Same w w' := by
  go_enter Try.func19, Try.ntmps19
  go_wp2
  exact bodyPost_ret (v := .agg #[.int .i64 n, .int .i64 c, .int .i64 d, .int .i64 z]) (by simp [results, Try.results19, go_sem]) rfl ⟨rfl, ((Same.refl w).alloc _).alloc _⟩

theorem iReversal_any (m d c z n : Int) (w : World) : Calls Try.prog 20 #[.agg #[.int .i64 m, .int .i64 d, .int .i64 c, .int .i64 z], .int .i64 n] w fun e w' =>
    e = .returned (.agg #[.int .i64 n, .int .i64 c, .int .i64 d, .int .i64 z]) ∧ Same w w' := by
  go_enter Try.func20, Try.ntmps20
  go_wp2
  exact bodyPost_ret (v := .agg #[.int .i64 n, .int .i64 c, .int .i64 d, .int .i64 z]) (by simp [results, Try.results20, go_sem]) rfl ⟨rfl, ((Same.refl w).alloc _).alloc _⟩

set_option maxHeartbeats 400000 in
theorem lawPostingOk (m d c z : Int) (w : World) : Calls Try.prog 3 #[.agg #[.int .i64 m, .int .i64 d, .int .i64 c, .int .i64 z]] w fun e w' => e = .returned (.bool true) ∧ Same w w' := by
  have hE := Lib.hid (show (postingOk (m, d, c, z) != postingOk (m, d, c, z)) = false by simp)
  go_enter Try.func3, Try.ntmps3
  go_wp2_with fail
  have hb := BoxAt.new w 23 [.int .i64 m, .int .i64 d, .int .i64 c, .int .i64 z]
  refine (toPosting_any m d c z _).mono ?_
  rintro e w1 ⟨rfl, hs1⟩
  go_wp2_with fail
  refine (sPostingOk_any m d c z _).mono ?_
  rintro e w2 ⟨rfl, hs2⟩
  have H2 : Same w w2 := (((Same.refl w).alloc _).trans hs1).trans hs2
  replace hb := hb.same (hs1.trans hs2)
  have cL := hb.lt
  have c0 := hb.cell 0 rfl
  have c1 := hb.cell 1 rfl
  have c2 := hb.cell 2 rfl
  have c3 := hb.cell 3 rfl
  go_wp2_with fail
  refine (toPosting_any m d c z _).mono ?_
  rintro e w3 ⟨rfl, hs3⟩
  go_wp2_with fail
  refine (iPostingOk_any m d c z _).mono ?_
  rintro e w4 ⟨rfl, hs4⟩
  go_wp2_with fail
  go_ret
  exact ⟨rfl, (H2.trans hs3).trans hs4⟩

set_option maxHeartbeats 400000 in
theorem lawReversal (m d c z n : Int) (w : World) (_ : (Lit.int .i64 n).wf = true) : Calls Try.prog 4 #[.agg #[.int .i64 m, .int .i64 d, .int .i64 c, .int .i64 z], .int .i64 n] w fun e w' => e = .returned (.bool true) ∧ Same w w' := by
  go_enter Try.func4, Try.ntmps4
  go_wp2_with fail
  have hb := BoxAt.new w 23 [.int .i64 m, .int .i64 d, .int .i64 c, .int .i64 z]
  refine (toPosting_any m d c z _).mono ?_
  rintro e w1 ⟨rfl, hs1⟩
  go_wp2_with fail
  refine (sReversal_any m d c z n _).mono ?_
  rintro e w2 ⟨rfl, hs2⟩
  have H2 : Same w w2 := (((Same.refl w).alloc _).trans hs1).trans hs2
  replace hb := hb.same (hs1.trans hs2)
  have cL := hb.lt
  have c0 := hb.cell 0 rfl
  have c1 := hb.cell 1 rfl
  have c2 := hb.cell 2 rfl
  have c3 := hb.cell 3 rfl
  go_wp2_with fail
  have hd := BoxAt.new w2 25 [.int .i64 n, .int .i64 c, .int .i64 d, .int .i64 z]
  refine (toPosting_any m d c z _).mono ?_
  rintro e w3 ⟨rfl, hs3⟩
  go_wp2_with fail
  refine (iReversal_any m d c z n _).mono ?_
  rintro e w4 ⟨rfl, hs4⟩
  replace hd := hd.same (hs3.trans hs4)
  have dL := hd.lt
  have d0 := hd.cell 0 rfl
  have d1 := hd.cell 1 rfl
  have d2 := hd.cell 2 rfl
  have d3 := hd.cell 3 rfl
  have H4 : Same w w4 := ((H2.alloc _).trans hs3).trans hs4
  go_wp2_with fail
  refine (eqPosting_any n c d z n c d z _).mono ?_
  rintro e w5 ⟨rfl, hs5⟩
  rw [decide_eq_true rfl]
  go_wp2_with fail
  go_ret
  exact ⟨rfl, (H4.alloc _).trans hs5⟩
end Go.Proofs.Ythelclibokkdnaa
