/-
  Lists of brackets: their copies and comparisons.
-/
import Derived.Test.YtegcfjnjgklchaaRec
import Derived.Test.YtegcfjnjgklchaaBase
import Derived.StillTailTactics
namespace Go.Proofs.Ytegcfjnjgklchaa
open Go.RowKit

def cBracket (x : TBracket) : List Value := [.int .i64 x.1, .int .i64 x.2]
theorem cBracket_len (x : TBracket) : (cBracket x).length = 2 := rfl
theorem cBracket_one (x : TBracket) : ∀ u ∈ cBracket x, u.oneCell' = true := by
  intro u hu
  simp only [cBracket, List.mem_cons, List.not_mem_nil, or_false] at hu
  rcases hu with rfl | rfl <;> rfl
theorem Try.infoBracket : (Try.prog.info? 42).map (fun i => (i.zero, i.size, i.bytes)) = some (some (.agg #[.int .i64 0, .int .i64 0]), 2, 16) := by kernel_rfl
abbrev OwnBracket (w : World) (base : Nat) (v : Value) (L : List TBracket) : Prop := OwnR 42 2 cBracket w base v L
abbrev AtBracket (w : World) (A : Option Addr) (L : List TBracket) : Prop := RecAt 2 cBracket w A L

theorem szBracketS_any (A : Option Addr) (n c : Nat) (l : Int) (w : World) (hn : n ≤ 9223372036854775807) (h0 : 0 ≤ l) (h1 : l ≤ 1048576) :
    Calls Try.prog 19 #[.slice A n c, .int .i64 l] w fun e w' => e = .returned (.int .i64 (if (n : Int) ≤ l then l - n else -1)) ∧ w = w' := by
  by_cases h : (n : Int) ≤ l
  · go_enter Try.func19, Try.ntmps19
    go_wp2
    go_ret
    exact ⟨rfl, rfl⟩
  · go_enter Try.func19, Try.ntmps19
    go_wp2
    go_ret
    exact ⟨rfl, rfl⟩

theorem toBracket_any (f0 f1 : Int) (w : World) : Calls Try.prog 48 #[.agg #[.int .i64 f0, .int .i64 f1]] w fun e w' => e = .returned (.agg #[.int .i64 f0, .int .i64 f1]) ∧ Same w w' := by
  go_enter Try.func48, Try.ntmps48
  go_wp2
  exact bodyPost_ret (v := .agg #[.int .i64 f0, .int .i64 f1]) (by simp [results, Try.results48, go_sem]) rfl ⟨rfl, (((Same.refl w).alloc _).alloc _).alloc _⟩

set_option maxHeartbeats 1000000 in
theorem toBracketS_any (A : Option Addr) (c : Nat) (L : List TBracket) (w : World) (hz : L.length ≤ 1048576) (hA : AtBracket w A L) :
    Calls Try.prog 21 #[.slice A L.length c] w fun e w' => e = .returned (.slice (some ⟨w.heap.size, 0, none⟩) L.length L.length) ∧
      OwnBracket w' w.heap.size (.slice (some ⟨w.heap.size, 0, none⟩) L.length L.length) L ∧ Same w w' := by
  obtain ⟨i0, hi, hz0, hz1, hz2⟩ := info_parts Try.infoBracket
  go_enter Try.func21, Try.ntmps21
  go_wp2_with (at_make; refine wpList_make_full _ rfl _ _ 29 rfl w.heap.size 42 i0 (.agg #[.int .i64 0, .int .i64 0]) 2 Try.underlying29 hi hz0 hz1 _ _ _ _ L.length rfl rfl rfl rfl ?b2 ?b3 ?b4 ?_)
  case b2 => rw [hz2]; omega
  case b3 => unfold maxLen; omega
  case b4 => exact Nat.le_refl _
  intro w1 hown hgrow
  have hs1 : Same w w1 := (Same.refl w).grown hgrow (fun g h => by cases h)
  have hown1 : OwnBracket w1 w.heap.size (.slice (some ⟨w.heap.size, 0, none⟩) L.length L.length) (List.replicate L.length (0, 0)) := by
    have hm := madeCells_flat (s := 2) (cells := cBracket) (cBracket (0, 0)) (0, 0) rfl rfl (by omega) L.length
    show World.ownsRow _ _ _ _ _ _ _
    rw [List.length_replicate, ← hm]
    exact hown
  clear hown hgrow
  go_wp2
  go_loopw [4] (fun i wr => ∃ k : Nat, k ≤ L.length ∧ i = .int .i64 k ∧
      OwnBracket wr w.heap.size (.slice (some ⟨w.heap.size, 0, none⟩) L.length L.length) (mix L (List.replicate L.length (0, 0)) k) ∧ Same w wr) (fun i _ => L.length - (intOf i).toNat)
  case atStart => exact ⟨0, Nat.zero_le _, rfl, by rw [mix_zero]; exact hown1, hs1⟩
  case round =>
    obtain ⟨k, hk, rfl, hown, hs⟩ := hrel
    by_cases hlt : k < L.length
    · obtain ⟨b, off, x, rfl, hc, HX, hb⟩ := (hA.same hs).at_ hlt
      clear hA hown1
      obtain ⟨f0, f1⟩ := x
      have c0 := hc 0 _ rfl
      have c1 := hc 1 _ rfl
      simp only [Nat.add_zero] at c0
      clear hc
      go_wp2_with fail
      refine (toBracket_any f0 f1 _).mono ?_
      rintro e w2 ⟨rfl, hs2⟩
      have hown2 := hown.same hs2
      have hss := hs.trans hs2
      clear hown hs2 hs c0 c1
      obtain ⟨u, hu⟩ : ∃ u, (mix L (List.replicate L.length (0, 0)) k)[k]? = some u := ⟨_, List.getElem?_eq_getElem (by rw [mix_length (by simp) (by omega)]; exact hlt)⟩
      obtain ⟨u0_, u1_⟩ := u
      obtain ⟨_, _, hd, hf⟩ := hown2.atg cBracket_len hu
      have hst := hown2.set cBracket_len (k := k) (by rw [mix_length (by simp) (by omega)]; exact hlt) (f0, f1)
      clear hown2 hu
      have d0 := hd 0 _ rfl
      have d1 := hd 1 _ rfl
      simp only [Nat.add_zero] at d0
      clear hd
      have hf0 := hf (k * 2)
      have hf1 := hf (k * 2 + 1)
      clear hf
      go_wp2
      go_roundw
      case rel =>
        refine ⟨k + 1, hlt, by go_num, ?_, hss.grown hst.out.2 (fun g hg => by injection hg with hg; omega)⟩
        have := hst.out.1
        rw [mix_set HX.out (by simp)] at this
        exact this
      case measure => simp [intOf]; omega
    · go_wp2
      go_ret
      refine ⟨rfl, ?_, hs⟩
      rwa [mix_full _ _ (by omega) (by simp)] at hown

set_option maxHeartbeats 400000 in
theorem eqBracket_any (f0 f1 g0 g1 : Int) (w : World) : Calls Try.prog 50 #[.agg #[.int .i64 f0, .int .i64 f1], .agg #[.int .i64 g0, .int .i64 g1]] w fun e w' => e = .returned (.bool (decide (((f0, f1) : TBracket) = (g0, g1)))) ∧ Same w w' := by
  by_cases h0 : f0 = g0
  · subst h0
    have b0 : (f0 != f0) = false := by simp
    by_cases h1 : f1 = g1
    · subst h1
      have b1 : (f1 != f1) = false := by simp
      go_enter Try.func50, Try.ntmps50
      go_wp2
      go_ret
      exact ⟨rfl, ((Same.refl w).alloc _).alloc _⟩
    · have b1 : (f1 != g1) = true := by simp [h1]
      have HN := Lib.hid h1
      clear h1
      go_enter Try.func50, Try.ntmps50
      go_wp2
      go_ret
      exact ⟨ret_bool (Eq.symm (decide_eq_false (fun e => HN.out (by simpa using congrArg (fun x : TBracket => x.2) e)))), ((Same.refl w).alloc _).alloc _⟩
  · have b0 : (f0 != g0) = true := by simp [h0]
    have HN := Lib.hid h0
    clear h0
    go_enter Try.func50, Try.ntmps50
    go_wp2
    go_ret
    exact ⟨ret_bool (Eq.symm (decide_eq_false (fun e => HN.out (by simpa using congrArg (fun x : TBracket => x.1) e)))), ((Same.refl w).alloc _).alloc _⟩

set_option maxHeartbeats 1000000 in
theorem eqBracketS_any (A B : Option Addr) (c d : Nat) (xs ys : List TBracket) (w : World) (hx : xs.length ≤ 9223372036854775807) (hy : ys.length ≤ 9223372036854775807) (hA : AtBracket w A xs) (hB : AtBracket w B ys) :
    Calls Try.prog 23 #[.slice A xs.length c, .slice B ys.length d] w fun e w' => e = .returned (.bool (decide (xs = ys))) ∧ Same w w' := by
  by_cases hl : xs.length = ys.length
  · have hne : ((xs.length : Int) != (ys.length : Int)) = false := by rw [hl]; simp
    have HL := Lib.hid hl
    clear hl
    go_enter Try.func23, Try.ntmps23
    go_wp2
    go_loopw [5] (fun i wr => ∃ k : Nat, k ≤ xs.length ∧ i = .int .i64 k ∧ Hid (xs.take k = ys.take k) ∧ Same w wr) (fun i _ => xs.length - (intOf i).toNat)
    case atStart => exact ⟨0, Nat.zero_le _, rfl, rfl, Same.refl _⟩
    case round =>
      obtain ⟨k, hk, rfl, hall, hd⟩ := hrel
      by_cases hlt : k < xs.length
      · obtain ⟨b, off, x, rfl, hc, HX, _⟩ := (hA.same hd).at_ hlt
        have hlt' : k < ys.length := by have := HL.out; omega
        obtain ⟨b', off', y, rfl, hc', HY, _⟩ := (hB.same hd).at_ hlt'
        clear hA hB
        obtain ⟨f0, f1⟩ := x
        obtain ⟨g0, g1⟩ := y
        have c0 := hc 0 _ rfl
        have c1 := hc 1 _ rfl
        simp only [Nat.add_zero] at c0
        clear hc
        have e0 := hc' 0 _ rfl
        have e1 := hc' 1 _ rfl
        simp only [Nat.add_zero] at e0
        clear hc'
        go_wp2
        go_still_tail 8, (by kernel_rfl)
        change wpList _ _ _ _ _ wr.drew
        have hdr : Same w wr.drew := hd.drew
        generalize wr.drew = w2 at *
        go_wp2_with fail
        refine (eqBracket_any f0 f1 g0 g1 _).mono ?_
        rintro e w3 ⟨rfl, hs3⟩
        have hss := hdr.trans hs3
        clear c0 e0 c1 e1 hs3 hdr hd
        by_cases hxy : ((f0, f1) : TBracket) = (g0, g1)
        · rw [decide_eq_true hxy]
          have HXY := Lib.hid hxy
          clear hxy
          go_wp2
          go_roundw
          case rel => exact ⟨k + 1, hlt, by go_num, take_eq_succ hall.out HX.out (by rw [HXY.out]; exact HY.out), hss⟩
          case measure => simp [intOf]; omega
        · rw [decide_eq_false hxy]
          have HN := Lib.hid hxy
          clear hxy
          go_wp2
          go_ret
          refine ⟨ret_bool (Eq.symm (decide_eq_false (fun e => HN.out ?_))), hss⟩
          subst e
          exact Option.some.inj (HX.out.symm.trans HY.out)
      · go_wp2
        go_ret
        refine ⟨ret_bool (Eq.symm (decide_eq_true ?_)), hd⟩
        have h1 := hall.out
        have h2 := HL.out
        rw [show k = xs.length by omega, List.take_length, h2, List.take_length] at h1
        exact h1
  · have hne : ((xs.length : Int) != (ys.length : Int)) = true := by simp; omega
    have HL := Lib.hid hl
    clear hl
    go_enter Try.func23, Try.ntmps23
    go_wp2
    go_ret
    exact ⟨ret_bool (Eq.symm (decide_eq_false (fun e => HL.out (by rw [e])))), Same.refl _⟩
end Go.Proofs.Ytegcfjnjgklchaa
