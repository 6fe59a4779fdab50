/-
  Facts, points, spells, events and nodes: their copies and comparisons, alone and in lists.
-/
import Derived.Test.YtjfmknhnplefnaaGreatZRec
import Derived.Test.YtjfmknhnplefnaaGreatZBase
import Derived.Test.YtjfmknhnplefnaaGreatZPlain
import Derived.StillTailTactics
namespace Go.Proofs.YtjfmknhnplefnaaGreat
open Go.RowKit
set_option linter.unusedVariables false

def cFact (x : TFact) : List Value := [.int .i64 x.1, .int .i64 x.2.1, .int .i64 x.2.2.1, .int .i64 x.2.2.2.1, .int .i64 x.2.2.2.2]
theorem cFact_len (x : TFact) : (cFact x).length = 5 := rfl
theorem cFact_one (x : TFact) : ∀ u ∈ cFact x, u.oneCell' = true := by
  intro u hu
  simp only [cFact, List.mem_cons, List.not_mem_nil, or_false] at hu
  rcases hu with rfl | rfl | rfl | rfl | rfl <;> rfl
theorem Tryz.infoFact : (Tryz.prog.info? 140).map (fun i => (i.zero, i.size, i.bytes)) = some (some (.agg #[.int .i64 0, .int .i64 0, .int .i64 0, .int .i64 0, .int .i64 0]), 5, 40) := by kernel_rfl
abbrev OwnFact (w : World) (base : Nat) (v : Value) (L : List TFact) : Prop := OwnR 140 5 cFact w base v L
abbrev AtFact (w : World) (A : Option Addr) (L : List TFact) : Prop := RecAt 5 cFact w A L

theorem szFactS_any (A : Option Addr) (n c : Nat) (l : Int) (w : World) (hn : n ≤ 9223372036854775807) (h0 : 0 ≤ l) (h1 : l ≤ 1048576) :
    Calls Tryz.prog 130 #[.slice A n c, .int .i64 l] w fun e w' => e = .returned (.int .i64 (if (n : Int) ≤ l then l - n else -1)) ∧ w = w' := by
  by_cases h : (n : Int) ≤ l
  · go_enter Tryz.func130, Tryz.ntmps130
    go_wp2
    go_ret
    exact ⟨rfl, rfl⟩
  · go_enter Tryz.func130, Tryz.ntmps130
    go_wp2
    go_ret
    exact ⟨rfl, rfl⟩

theorem toFact_any (f0 : Int) (f1 : Int) (f2 : Int) (f3 : Int) (f4 : Int) (w : World) : Calls Tryz.prog 178 #[.agg #[.int .i64 f0, .int .i64 f1, .int .i64 f2, .int .i64 f3, .int .i64 f4]] w fun e w' => e = .returned (.agg #[.int .i64 f0, .int .i64 f1, .int .i64 f2, .int .i64 f3, .int .i64 f4]) ∧ Same w w' := by
  go_enter Tryz.func178, Tryz.ntmps178
  go_wp2
  exact bodyPost_ret (v := .agg #[.int .i64 f0, .int .i64 f1, .int .i64 f2, .int .i64 f3, .int .i64 f4]) (by simp [results, Tryz.results178, go_sem]) rfl ⟨rfl, (((Same.refl w).alloc _).alloc _).alloc _⟩

set_option maxHeartbeats 1000000 in
theorem toFactS_any (A : Option Addr) (c : Nat) (L : List TFact) (w : World) (hz : L.length ≤ 1048576) (hA : AtFact w A L) :
    Calls Tryz.prog 142 #[.slice A L.length c] w fun e w' => e = .returned (.slice (some ⟨w.heap.size, 0, none⟩) L.length L.length) ∧
      OwnFact w' w.heap.size (.slice (some ⟨w.heap.size, 0, none⟩) L.length L.length) L ∧ Same w w' := by
  obtain ⟨i0, hi, hz0, hz1, hz2⟩ := info_parts Tryz.infoFact
  go_enter Tryz.func142, Tryz.ntmps142
  go_wp2_with (at_make; refine wpList_make_full _ rfl _ _ 27 rfl w.heap.size 140 i0 (.agg #[.int .i64 0, .int .i64 0, .int .i64 0, .int .i64 0, .int .i64 0]) 5 Tryz.underlying27 hi hz0 hz1 _ _ _ _ L.length rfl rfl rfl rfl ?b2 ?b3 ?b4 ?_)
  case b2 => rw [hz2]; omega
  case b3 => unfold maxLen; omega
  case b4 => exact Nat.le_refl _
  intro w1 hown hgrow
  have hs1 : Same w w1 := (Same.refl w).grown hgrow (fun g h => by cases h)
  have hown1 : OwnFact w1 w.heap.size (.slice (some ⟨w.heap.size, 0, none⟩) L.length L.length) (List.replicate L.length (0, 0, 0, 0, 0)) := by
    have hm := madeCells_flat (s := 5) (cells := cFact) (cFact (0, 0, 0, 0, 0)) (0, 0, 0, 0, 0) rfl rfl (by omega) L.length
    show World.ownsRow _ _ _ _ _ _ _
    rw [List.length_replicate, ← hm]
    exact hown
  clear hown hgrow
  go_wp2
  go_loopw [4] (fun i wr => ∃ k : Nat, k ≤ L.length ∧ i = .int .i64 k ∧
      OwnFact wr w.heap.size (.slice (some ⟨w.heap.size, 0, none⟩) L.length L.length) (mix L (List.replicate L.length (0, 0, 0, 0, 0)) k) ∧ Same w wr) (fun i _ => L.length - (intOf i).toNat)
  case atStart => exact ⟨0, Nat.zero_le _, rfl, by rw [mix_zero]; exact hown1, hs1⟩
  case round =>
    obtain ⟨k, hk, rfl, hown, hs⟩ := hrel
    by_cases hlt : k < L.length
    · obtain ⟨b, off, x, rfl, hc, HX, hb⟩ := (hA.same hs).at_ hlt
      clear hA hown1
      obtain ⟨f0, f1, f2, f3, f4⟩ := x
      have c0 := hc 0 _ rfl
      have c1 := hc 1 _ rfl
      have c2 := hc 2 _ rfl
      have c3 := hc 3 _ rfl
      have c4 := hc 4 _ rfl
      simp only [Nat.add_zero] at c0
      clear hc
      go_wp2_with fail
      refine (toFact_any f0 f1 f2 f3 f4 _).mono ?_
      rintro e w2 ⟨rfl, hs2⟩
      have hown2 := hown.same hs2
      have hss := hs.trans hs2
      clear hown hs2 hs c0 c1 c2 c3 c4
      obtain ⟨u, hu⟩ : ∃ u, (mix L (List.replicate L.length (0, 0, 0, 0, 0)) k)[k]? = some u := ⟨_, List.getElem?_eq_getElem (by rw [mix_length (by simp) (by omega)]; exact hlt)⟩
      obtain ⟨u0_, u1_, u2_, u3_, u4_⟩ := u
      obtain ⟨_, _, hd, hf⟩ := hown2.atg cFact_len hu
      have hst := hown2.set cFact_len (k := k) (by rw [mix_length (by simp) (by omega)]; exact hlt) (f0, f1, f2, f3, f4)
      clear hown2 hu
      have d0 := hd 0 _ rfl
      have d1 := hd 1 _ rfl
      have d2 := hd 2 _ rfl
      have d3 := hd 3 _ rfl
      have d4 := hd 4 _ rfl
      simp only [Nat.add_zero] at d0
      clear hd
      have hf0 := hf (k * 5)
      have hf1 := hf (k * 5 + 1)
      have hf2 := hf (k * 5 + 2)
      have hf3 := hf (k * 5 + 3)
      have hf4 := hf (k * 5 + 4)
      clear hf
      go_wp2
      go_roundw
      case rel =>
        refine ⟨k + 1, hlt, by go_num, ?_, hss.grown hst.out.2 (fun g hg => by injection hg with hg; omega)⟩
        have := hst.out.1
        rw [mix_set HX.out (by simp)] at this
        exact this
      case measure => simp [intOf]; omega
    · go_wp2
      go_ret
      refine ⟨rfl, ?_, hs⟩
      rwa [mix_full _ _ (by omega) (by simp)] at hown

theorem eqFact_same (f0 : Int) (f1 : Int) (f2 : Int) (f3 : Int) (f4 : Int) (w : World) : Calls Tryz.prog 183 #[.agg #[.int .i64 f0, .int .i64 f1, .int .i64 f2, .int .i64 f3, .int .i64 f4], .agg #[.int .i64 f0, .int .i64 f1, .int .i64 f2, .int .i64 f3, .int .i64 f4]] w fun e w' => e = .returned (.bool true) ∧ Same w w' := by
  have b0 : (f0 != f0) = false := by simp
  have b1 : (f1 != f1) = false := by simp
  have b2 : (f2 != f2) = false := by simp
  have b3 : (f3 != f3) = false := by simp
  have b4 : (f4 != f4) = false := by simp
  go_enter Tryz.func183, Tryz.ntmps183
  go_wp2
  go_ret
  exact ⟨rfl, ((Same.refl w).alloc _).alloc _⟩

set_option maxRecDepth 10000 in
set_option maxHeartbeats 1000000 in
theorem eqFactS_same (A B : Option Addr) (c d : Nat) (xs : List TFact) (w : World) (hx : xs.length ≤ 9223372036854775807) (hA : AtFact w A xs) (hB : AtFact w B xs) :
    Calls Tryz.prog 147 #[.slice A xs.length c, .slice B xs.length d] w fun e w' => e = .returned (.bool true) ∧ Same w w' := by
  have hne : ((xs.length : Int) != (xs.length : Int)) = false := by simp
  go_enter Tryz.func147, Tryz.ntmps147
  go_wp2
  go_loopw [5] (fun i wr => ∃ k : Nat, k ≤ xs.length ∧ i = .int .i64 k ∧ Same w wr) (fun i _ => xs.length - (intOf i).toNat)
  case atStart => exact ⟨0, Nat.zero_le _, rfl, Same.refl _⟩
  case round =>
    obtain ⟨k, hk, rfl, hd⟩ := hrel
    by_cases hlt : k < xs.length
    · obtain ⟨b, off, x, rfl, hc, HX, _⟩ := (hA.same hd).at_ hlt
      obtain ⟨b', off', y, rfl, hc', HY, _⟩ := (hB.same hd).at_ hlt
      obtain rfl : x = y := Option.some.inj (HX.out.symm.trans HY.out)
      clear hA hB HX HY
      obtain ⟨f0, f1, f2, f3, f4⟩ := x
      have c0 := hc 0 _ rfl
      have c1 := hc 1 _ rfl
      have c2 := hc 2 _ rfl
      have c3 := hc 3 _ rfl
      have c4 := hc 4 _ rfl
      simp only [Nat.add_zero] at c0
      clear hc
      have e0 := hc' 0 _ rfl
      have e1 := hc' 1 _ rfl
      have e2 := hc' 2 _ rfl
      have e3 := hc' 3 _ rfl
      have e4 := hc' 4 _ rfl
      simp only [Nat.add_zero] at e0
      clear hc'
      go_wp2
      go_still_tail 8, (by kernel_rfl)
      change wpList _ _ _ _ _ wr.drew
      have hdr : Same w wr.drew := hd.drew
      generalize wr.drew = w2 at *
      go_wp2_with fail
      refine (eqFact_same f0 f1 f2 f3 f4 _).mono ?_
      rintro e w3 ⟨rfl, hs3⟩
      have hss := hdr.trans hs3
      clear c0 e0 c1 e1 c2 e2 c3 e3 c4 e4 hs3 hdr hd
      go_wp2
      go_roundw
      case rel => exact ⟨k + 1, hlt, by go_num, hss⟩
      case measure => simp [intOf]; omega
    · go_wp2
      go_ret
      exact ⟨rfl, hd⟩

def cPoint (x : TPoint) : List Value := [.int .i64 x.1, .int .i64 x.2.1, .int .i64 x.2.2]
theorem cPoint_len (x : TPoint) : (cPoint x).length = 3 := rfl
theorem cPoint_one (x : TPoint) : ∀ u ∈ cPoint x, u.oneCell' = true := by
  intro u hu
  simp only [cPoint, List.mem_cons, List.not_mem_nil, or_false] at hu
  rcases hu with rfl | rfl | rfl <;> rfl
theorem Tryz.infoPoint : (Tryz.prog.info? 150).map (fun i => (i.zero, i.size, i.bytes)) = some (some (.agg #[.int .i64 0, .int .i64 0, .int .i64 0]), 3, 24) := by kernel_rfl
abbrev OwnPoint (w : World) (base : Nat) (v : Value) (L : List TPoint) : Prop := OwnR 150 3 cPoint w base v L
abbrev AtPoint (w : World) (A : Option Addr) (L : List TPoint) : Prop := RecAt 3 cPoint w A L

theorem szPointS_any (A : Option Addr) (n c : Nat) (l : Int) (w : World) (hn : n ≤ 9223372036854775807) (h0 : 0 ≤ l) (h1 : l ≤ 1048576) :
    Calls Tryz.prog 131 #[.slice A n c, .int .i64 l] w fun e w' => e = .returned (.int .i64 (if (n : Int) ≤ l then l - n else -1)) ∧ w = w' := by
  by_cases h : (n : Int) ≤ l
  · go_enter Tryz.func131, Tryz.ntmps131
    go_wp2
    go_ret
    exact ⟨rfl, rfl⟩
  · go_enter Tryz.func131, Tryz.ntmps131
    go_wp2
    go_ret
    exact ⟨rfl, rfl⟩

theorem toPoint_any (f0 : Int) (f1 : Int) (f2 : Int) (w : World) : Calls Tryz.prog 179 #[.agg #[.int .i64 f0, .int .i64 f1, .int .i64 f2]] w fun e w' => e = .returned (.agg #[.int .i64 f0, .int .i64 f1, .int .i64 f2]) ∧ Same w w' := by
  go_enter Tryz.func179, Tryz.ntmps179
  go_wp2
  exact bodyPost_ret (v := .agg #[.int .i64 f0, .int .i64 f1, .int .i64 f2]) (by simp [results, Tryz.results179, go_sem]) rfl ⟨rfl, (((Same.refl w).alloc _).alloc _).alloc _⟩

set_option maxHeartbeats 1000000 in
theorem toPointS_any (A : Option Addr) (c : Nat) (L : List TPoint) (w : World) (hz : L.length ≤ 1048576) (hA : AtPoint w A L) :
    Calls Tryz.prog 143 #[.slice A L.length c] w fun e w' => e = .returned (.slice (some ⟨w.heap.size, 0, none⟩) L.length L.length) ∧
      OwnPoint w' w.heap.size (.slice (some ⟨w.heap.size, 0, none⟩) L.length L.length) L ∧ Same w w' := by
  obtain ⟨i0, hi, hz0, hz1, hz2⟩ := info_parts Tryz.infoPoint
  go_enter Tryz.func143, Tryz.ntmps143
  go_wp2_with (at_make; refine wpList_make_full _ rfl _ _ 30 rfl w.heap.size 150 i0 (.agg #[.int .i64 0, .int .i64 0, .int .i64 0]) 3 Tryz.underlying30 hi hz0 hz1 _ _ _ _ L.length rfl rfl rfl rfl ?b2 ?b3 ?b4 ?_)
  case b2 => rw [hz2]; omega
  case b3 => unfold maxLen; omega
  case b4 => exact Nat.le_refl _
  intro w1 hown hgrow
  have hs1 : Same w w1 := (Same.refl w).grown hgrow (fun g h => by cases h)
  have hown1 : OwnPoint w1 w.heap.size (.slice (some ⟨w.heap.size, 0, none⟩) L.length L.length) (List.replicate L.length (0, 0, 0)) := by
    have hm := madeCells_flat (s := 3) (cells := cPoint) (cPoint (0, 0, 0)) (0, 0, 0) rfl rfl (by omega) L.length
    show World.ownsRow _ _ _ _ _ _ _
    rw [List.length_replicate, ← hm]
    exact hown
  clear hown hgrow
  go_wp2
  go_loopw [4] (fun i wr => ∃ k : Nat, k ≤ L.length ∧ i = .int .i64 k ∧
      OwnPoint wr w.heap.size (.slice (some ⟨w.heap.size, 0, none⟩) L.length L.length) (mix L (List.replicate L.length (0, 0, 0)) k) ∧ Same w wr) (fun i _ => L.length - (intOf i).toNat)
  case atStart => exact ⟨0, Nat.zero_le _, rfl, by rw [mix_zero]; exact hown1, hs1⟩
  case round =>
    obtain ⟨k, hk, rfl, hown, hs⟩ := hrel
    by_cases hlt : k < L.length
    · obtain ⟨b, off, x, rfl, hc, HX, hb⟩ := (hA.same hs).at_ hlt
      clear hA hown1
      obtain ⟨f0, f1, f2⟩ := x
      have c0 := hc 0 _ rfl
      have c1 := hc 1 _ rfl
      have c2 := hc 2 _ rfl
      simp only [Nat.add_zero] at c0
      clear hc
      go_wp2_with fail
      refine (toPoint_any f0 f1 f2 _).mono ?_
      rintro e w2 ⟨rfl, hs2⟩
      have hown2 := hown.same hs2
      have hss := hs.trans hs2
      clear hown hs2 hs c0 c1 c2
      obtain ⟨u, hu⟩ : ∃ u, (mix L (List.replicate L.length (0, 0, 0)) k)[k]? = some u := ⟨_, List.getElem?_eq_getElem (by rw [mix_length (by simp) (by omega)]; exact hlt)⟩
      obtain ⟨u0_, u1_, u2_⟩ := u
      obtain ⟨_, _, hd, hf⟩ := hown2.atg cPoint_len hu
      have hst := hown2.set cPoint_len (k := k) (by rw [mix_length (by simp) (by omega)]; exact hlt) (f0, f1, f2)
      clear hown2 hu
      have d0 := hd 0 _ rfl
      have d1 := hd 1 _ rfl
      have d2 := hd 2 _ rfl
      simp only [Nat.add_zero] at d0
      clear hd
      have hf0 := hf (k * 3)
      have hf1 := hf (k * 3 + 1)
      have hf2 := hf (k * 3 + 2)
      clear hf
      go_wp2
      go_roundw
      case rel =>
        refine ⟨k + 1, hlt, by go_num, ?_, hss.grown hst.out.2 (fun g hg => by injection hg with hg; omega)⟩
        have := hst.out.1
        rw [mix_set HX.out (by simp)] at this
        exact this
      case measure => simp [intOf]; omega
    · go_wp2
      go_ret
      refine ⟨rfl, ?_, hs⟩
      rwa [mix_full _ _ (by omega) (by simp)] at hown

theorem eqPoint_same (f0 : Int) (f1 : Int) (f2 : Int) (w : World) : Calls Tryz.prog 184 #[.agg #[.int .i64 f0, .int .i64 f1, .int .i64 f2], .agg #[.int .i64 f0, .int .i64 f1, .int .i64 f2]] w fun e w' => e = .returned (.bool true) ∧ Same w w' := by
  have b0 : (f0 != f0) = false := by simp
  have b1 : (f1 != f1) = false := by simp
  have b2 : (f2 != f2) = false := by simp
  go_enter Tryz.func184, Tryz.ntmps184
  go_wp2
  go_ret
  exact ⟨rfl, ((Same.refl w).alloc _).alloc _⟩

set_option maxRecDepth 10000 in
set_option maxHeartbeats 1000000 in
theorem eqPointS_same (A B : Option Addr) (c d : Nat) (xs : List TPoint) (w : World) (hx : xs.length ≤ 9223372036854775807) (hA : AtPoint w A xs) (hB : AtPoint w B xs) :
    Calls Tryz.prog 148 #[.slice A xs.length c, .slice B xs.length d] w fun e w' => e = .returned (.bool true) ∧ Same w w' := by
  have hne : ((xs.length : Int) != (xs.length : Int)) = false := by simp
  go_enter Tryz.func148, Tryz.ntmps148
  go_wp2
  go_loopw [5] (fun i wr => ∃ k : Nat, k ≤ xs.length ∧ i = .int .i64 k ∧ Same w wr) (fun i _ => xs.length - (intOf i).toNat)
  case atStart => exact ⟨0, Nat.zero_le _, rfl, Same.refl _⟩
  case round =>
    obtain ⟨k, hk, rfl, hd⟩ := hrel
    by_cases hlt : k < xs.length
    · obtain ⟨b, off, x, rfl, hc, HX, _⟩ := (hA.same hd).at_ hlt
      obtain ⟨b', off', y, rfl, hc', HY, _⟩ := (hB.same hd).at_ hlt
      obtain rfl : x = y := Option.some.inj (HX.out.symm.trans HY.out)
      clear hA hB HX HY
      obtain ⟨f0, f1, f2⟩ := x
      have c0 := hc 0 _ rfl
      have c1 := hc 1 _ rfl
      have c2 := hc 2 _ rfl
      simp only [Nat.add_zero] at c0
      clear hc
      have e0 := hc' 0 _ rfl
      have e1 := hc' 1 _ rfl
      have e2 := hc' 2 _ rfl
      simp only [Nat.add_zero] at e0
      clear hc'
      go_wp2
      go_still_tail 8, (by kernel_rfl)
      change wpList _ _ _ _ _ wr.drew
      have hdr : Same w wr.drew := hd.drew
      generalize wr.drew = w2 at *
      go_wp2_with fail
      refine (eqPoint_same f0 f1 f2 _).mono ?_
      rintro e w3 ⟨rfl, hs3⟩
      have hss := hdr.trans hs3
      clear c0 e0 c1 e1 c2 e2 hs3 hdr hd
      go_wp2
      go_roundw
      case rel => exact ⟨k + 1, hlt, by go_num, hss⟩
      case measure => simp [intOf]; omega
    · go_wp2
      go_ret
      exact ⟨rfl, hd⟩

def cSpell (x : TSpell) : List Value := [.int .i64 x.1, .int .i64 x.2.1, .int .i64 x.2.2.1, .bool x.2.2.2]
theorem cSpell_len (x : TSpell) : (cSpell x).length = 4 := rfl
theorem cSpell_one (x : TSpell) : ∀ u ∈ cSpell x, u.oneCell' = true := by
  intro u hu
  simp only [cSpell, List.mem_cons, List.not_mem_nil, or_false] at hu
  rcases hu with rfl | rfl | rfl | rfl <;> rfl
theorem Tryz.infoSpell : (Tryz.prog.info? 160).map (fun i => (i.zero, i.size, i.bytes)) = some (some (.agg #[.int .i64 0, .int .i64 0, .int .i64 0, .bool false]), 4, 32) := by kernel_rfl
abbrev OwnSpell (w : World) (base : Nat) (v : Value) (L : List TSpell) : Prop := OwnR 160 4 cSpell w base v L
abbrev AtSpell (w : World) (A : Option Addr) (L : List TSpell) : Prop := RecAt 4 cSpell w A L

theorem szSpellS_any (A : Option Addr) (n c : Nat) (l : Int) (w : World) (hn : n ≤ 9223372036854775807) (h0 : 0 ≤ l) (h1 : l ≤ 1048576) :
    Calls Tryz.prog 132 #[.slice A n c, .int .i64 l] w fun e w' => e = .returned (.int .i64 (if (n : Int) ≤ l then l - n else -1)) ∧ w = w' := by
  by_cases h : (n : Int) ≤ l
  · go_enter Tryz.func132, Tryz.ntmps132
    go_wp2
    go_ret
    exact ⟨rfl, rfl⟩
  · go_enter Tryz.func132, Tryz.ntmps132
    go_wp2
    go_ret
    exact ⟨rfl, rfl⟩

theorem toSpell_any (f0 : Int) (f1 : Int) (f2 : Int) (f3 : Bool) (w : World) : Calls Tryz.prog 180 #[.agg #[.int .i64 f0, .int .i64 f1, .int .i64 f2, .bool f3]] w fun e w' => e = .returned (.agg #[.int .i64 f0, .int .i64 f1, .int .i64 f2, .bool f3]) ∧ Same w w' := by
  go_enter Tryz.func180, Tryz.ntmps180
  go_wp2
  exact bodyPost_ret (v := .agg #[.int .i64 f0, .int .i64 f1, .int .i64 f2, .bool f3]) (by simp [results, Tryz.results180, go_sem]) rfl ⟨rfl, (((Same.refl w).alloc _).alloc _).alloc _⟩

set_option maxHeartbeats 1000000 in
theorem toSpellS_any (A : Option Addr) (c : Nat) (L : List TSpell) (w : World) (hz : L.length ≤ 1048576) (hA : AtSpell w A L) :
    Calls Tryz.prog 144 #[.slice A L.length c] w fun e w' => e = .returned (.slice (some ⟨w.heap.size, 0, none⟩) L.length L.length) ∧
      OwnSpell w' w.heap.size (.slice (some ⟨w.heap.size, 0, none⟩) L.length L.length) L ∧ Same w w' := by
  obtain ⟨i0, hi, hz0, hz1, hz2⟩ := info_parts Tryz.infoSpell
  go_enter Tryz.func144, Tryz.ntmps144
  go_wp2_with (at_make; refine wpList_make_full _ rfl _ _ 33 rfl w.heap.size 160 i0 (.agg #[.int .i64 0, .int .i64 0, .int .i64 0, .bool false]) 4 Tryz.underlying33 hi hz0 hz1 _ _ _ _ L.length rfl rfl rfl rfl ?b2 ?b3 ?b4 ?_)
  case b2 => rw [hz2]; omega
  case b3 => unfold maxLen; omega
  case b4 => exact Nat.le_refl _
  intro w1 hown hgrow
  have hs1 : Same w w1 := (Same.refl w).grown hgrow (fun g h => by cases h)
  have hown1 : OwnSpell w1 w.heap.size (.slice (some ⟨w.heap.size, 0, none⟩) L.length L.length) (List.replicate L.length (0, 0, 0, false)) := by
    have hm := madeCells_flat (s := 4) (cells := cSpell) (cSpell (0, 0, 0, false)) (0, 0, 0, false) rfl rfl (by omega) L.length
    show World.ownsRow _ _ _ _ _ _ _
    rw [List.length_replicate, ← hm]
    exact hown
  clear hown hgrow
  go_wp2
  go_loopw [4] (fun i wr => ∃ k : Nat, k ≤ L.length ∧ i = .int .i64 k ∧
      OwnSpell wr w.heap.size (.slice (some ⟨w.heap.size, 0, none⟩) L.length L.length) (mix L (List.replicate L.length (0, 0, 0, false)) k) ∧ Same w wr) (fun i _ => L.length - (intOf i).toNat)
  case atStart => exact ⟨0, Nat.zero_le _, rfl, by rw [mix_zero]; exact hown1, hs1⟩
  case round =>
    obtain ⟨k, hk, rfl, hown, hs⟩ := hrel
    by_cases hlt : k < L.length
    · obtain ⟨b, off, x, rfl, hc, HX, hb⟩ := (hA.same hs).at_ hlt
      clear hA hown1
      obtain ⟨f0, f1, f2, f3⟩ := x
      have c0 := hc 0 _ rfl
      have c1 := hc 1 _ rfl
      have c2 := hc 2 _ rfl
      have c3 := hc 3 _ rfl
      simp only [Nat.add_zero] at c0
      clear hc
      go_wp2_with fail
      refine (toSpell_any f0 f1 f2 f3 _).mono ?_
      rintro e w2 ⟨rfl, hs2⟩
      have hown2 := hown.same hs2
      have hss := hs.trans hs2
      clear hown hs2 hs c0 c1 c2 c3
      obtain ⟨u, hu⟩ : ∃ u, (mix L (List.replicate L.length (0, 0, 0, false)) k)[k]? = some u := ⟨_, List.getElem?_eq_getElem (by rw [mix_length (by simp) (by omega)]; exact hlt)⟩
      obtain ⟨u0_, u1_, u2_, u3_⟩ := u
      obtain ⟨_, _, hd, hf⟩ := hown2.atg cSpell_len hu
      have hst := hown2.set cSpell_len (k := k) (by rw [mix_length (by simp) (by omega)]; exact hlt) (f0, f1, f2, f3)
      clear hown2 hu
      have d0 := hd 0 _ rfl
      have d1 := hd 1 _ rfl
      have d2 := hd 2 _ rfl
      have d3 := hd 3 _ rfl
      simp only [Nat.add_zero] at d0
      clear hd
      have hf0 := hf (k * 4)
      have hf1 := hf (k * 4 + 1)
      have hf2 := hf (k * 4 + 2)
      have hf3 := hf (k * 4 + 3)
      clear hf
      go_wp2
      go_roundw
      case rel =>
        refine ⟨k + 1, hlt, by go_num, ?_, hss.grown hst.out.2 (fun g hg => by injection hg with hg; omega)⟩
        have := hst.out.1
        rw [mix_set HX.out (by simp)] at this
        exact this
      case measure => simp [intOf]; omega
    · go_wp2
      go_ret
      refine ⟨rfl, ?_, hs⟩
      rwa [mix_full _ _ (by omega) (by simp)] at hown

theorem eqSpell_same (f0 : Int) (f1 : Int) (f2 : Int) (f3 : Bool) (w : World) : Calls Tryz.prog 185 #[.agg #[.int .i64 f0, .int .i64 f1, .int .i64 f2, .bool f3], .agg #[.int .i64 f0, .int .i64 f1, .int .i64 f2, .bool f3]] w fun e w' => e = .returned (.bool true) ∧ Same w w' := by
  have b0 : (f0 != f0) = false := by simp
  have b1 : (f1 != f1) = false := by simp
  have b2 : (f2 != f2) = false := by simp
  have b3 : (f3 != f3) = false := by simp
  go_enter Tryz.func185, Tryz.ntmps185
  go_wp2
  go_ret
  exact ⟨rfl, ((Same.refl w).alloc _).alloc _⟩

set_option maxRecDepth 10000 in
set_option maxHeartbeats 1000000 in
theorem eqSpellS_same (A B : Option Addr) (c d : Nat) (xs : List TSpell) (w : World) (hx : xs.length ≤ 9223372036854775807) (hA : AtSpell w A xs) (hB : AtSpell w B xs) :
    Calls Tryz.prog 149 #[.slice A xs.length c, .slice B xs.length d] w fun e w' => e = .returned (.bool true) ∧ Same w w' := by
  have hne : ((xs.length : Int) != (xs.length : Int)) = false := by simp
  go_enter Tryz.func149, Tryz.ntmps149
  go_wp2
  go_loopw [5] (fun i wr => ∃ k : Nat, k ≤ xs.length ∧ i = .int .i64 k ∧ Same w wr) (fun i _ => xs.length - (intOf i).toNat)
  case atStart => exact ⟨0, Nat.zero_le _, rfl, Same.refl _⟩
  case round =>
    obtain ⟨k, hk, rfl, hd⟩ := hrel
    by_cases hlt : k < xs.length
    · obtain ⟨b, off, x, rfl, hc, HX, _⟩ := (hA.same hd).at_ hlt
      obtain ⟨b', off', y, rfl, hc', HY, _⟩ := (hB.same hd).at_ hlt
      obtain rfl : x = y := Option.some.inj (HX.out.symm.trans HY.out)
      clear hA hB HX HY
      obtain ⟨f0, f1, f2, f3⟩ := x
      have c0 := hc 0 _ rfl
      have c1 := hc 1 _ rfl
      have c2 := hc 2 _ rfl
      have c3 := hc 3 _ rfl
      simp only [Nat.add_zero] at c0
      clear hc
      have e0 := hc' 0 _ rfl
      have e1 := hc' 1 _ rfl
      have e2 := hc' 2 _ rfl
      have e3 := hc' 3 _ rfl
      simp only [Nat.add_zero] at e0
      clear hc'
      go_wp2
      go_still_tail 8, (by kernel_rfl)
      change wpList _ _ _ _ _ wr.drew
      have hdr : Same w wr.drew := hd.drew
      generalize wr.drew = w2 at *
      go_wp2_with fail
      refine (eqSpell_same f0 f1 f2 f3 _).mono ?_
      rintro e w3 ⟨rfl, hs3⟩
      have hss := hdr.trans hs3
      clear c0 e0 c1 e1 c2 e2 c3 e3 hs3 hdr hd
      go_wp2
      go_roundw
      case rel => exact ⟨k + 1, hlt, by go_num, hss⟩
      case measure => simp [intOf]; omega
    · go_wp2
      go_ret
      exact ⟨rfl, hd⟩

def cEvent (x : TEvent) : List Value := [.int .i64 x.1, .int .i64 x.2]
theorem cEvent_len (x : TEvent) : (cEvent x).length = 2 := rfl
theorem cEvent_one (x : TEvent) : ∀ u ∈ cEvent x, u.oneCell' = true := by
  intro u hu
  simp only [cEvent, List.mem_cons, List.not_mem_nil, or_false] at hu
  rcases hu with rfl | rfl <;> rfl
theorem Tryz.infoEvent : (Tryz.prog.info? 95).map (fun i => (i.zero, i.size, i.bytes)) = some (some (.agg #[.int .i64 0, .int .i64 0]), 2, 16) := by kernel_rfl
abbrev OwnEvent (w : World) (base : Nat) (v : Value) (L : List TEvent) : Prop := OwnR 95 2 cEvent w base v L
abbrev AtEvent (w : World) (A : Option Addr) (L : List TEvent) : Prop := RecAt 2 cEvent w A L

theorem szEventS_any (A : Option Addr) (n c : Nat) (l : Int) (w : World) (hn : n ≤ 9223372036854775807) (h0 : 0 ≤ l) (h1 : l ≤ 1048576) :
    Calls Tryz.prog 133 #[.slice A n c, .int .i64 l] w fun e w' => e = .returned (.int .i64 (if (n : Int) ≤ l then l - n else -1)) ∧ w = w' := by
  by_cases h : (n : Int) ≤ l
  · go_enter Tryz.func133, Tryz.ntmps133
    go_wp2
    go_ret
    exact ⟨rfl, rfl⟩
  · go_enter Tryz.func133, Tryz.ntmps133
    go_wp2
    go_ret
    exact ⟨rfl, rfl⟩

theorem toEvent_any (f0 : Int) (f1 : Int) (w : World) : Calls Tryz.prog 181 #[.agg #[.int .i64 f0, .int .i64 f1]] w fun e w' => e = .returned (.agg #[.int .i64 f0, .int .i64 f1]) ∧ Same w w' := by
  go_enter Tryz.func181, Tryz.ntmps181
  go_wp2
  exact bodyPost_ret (v := .agg #[.int .i64 f0, .int .i64 f1]) (by simp [results, Tryz.results181, go_sem]) rfl ⟨rfl, (((Same.refl w).alloc _).alloc _).alloc _⟩

set_option maxHeartbeats 1000000 in
theorem toEventS_any (A : Option Addr) (c : Nat) (L : List TEvent) (w : World) (hz : L.length ≤ 1048576) (hA : AtEvent w A L) :
    Calls Tryz.prog 145 #[.slice A L.length c] w fun e w' => e = .returned (.slice (some ⟨w.heap.size, 0, none⟩) L.length L.length) ∧
      OwnEvent w' w.heap.size (.slice (some ⟨w.heap.size, 0, none⟩) L.length L.length) L ∧ Same w w' := by
  obtain ⟨i0, hi, hz0, hz1, hz2⟩ := info_parts Tryz.infoEvent
  go_enter Tryz.func145, Tryz.ntmps145
  go_wp2_with (at_make; refine wpList_make_full _ rfl _ _ 34 rfl w.heap.size 95 i0 (.agg #[.int .i64 0, .int .i64 0]) 2 Tryz.underlying34 hi hz0 hz1 _ _ _ _ L.length rfl rfl rfl rfl ?b2 ?b3 ?b4 ?_)
  case b2 => rw [hz2]; omega
  case b3 => unfold maxLen; omega
  case b4 => exact Nat.le_refl _
  intro w1 hown hgrow
  have hs1 : Same w w1 := (Same.refl w).grown hgrow (fun g h => by cases h)
  have hown1 : OwnEvent w1 w.heap.size (.slice (some ⟨w.heap.size, 0, none⟩) L.length L.length) (List.replicate L.length (0, 0)) := by
    have hm := madeCells_flat (s := 2) (cells := cEvent) (cEvent (0, 0)) (0, 0) rfl rfl (by omega) L.length
    show World.ownsRow _ _ _ _ _ _ _
    rw [List.length_replicate, ← hm]
    exact hown
  clear hown hgrow
  go_wp2
  go_loopw [4] (fun i wr => ∃ k : Nat, k ≤ L.length ∧ i = .int .i64 k ∧
      OwnEvent wr w.heap.size (.slice (some ⟨w.heap.size, 0, none⟩) L.length L.length) (mix L (List.replicate L.length (0, 0)) k) ∧ Same w wr) (fun i _ => L.length - (intOf i).toNat)
  case atStart => exact ⟨0, Nat.zero_le _, rfl, by rw [mix_zero]; exact hown1, hs1⟩
  case round =>
    obtain ⟨k, hk, rfl, hown, hs⟩ := hrel
    by_cases hlt : k < L.length
    · obtain ⟨b, off, x, rfl, hc, HX, hb⟩ := (hA.same hs).at_ hlt
      clear hA hown1
      obtain ⟨f0, f1⟩ := x
      have c0 := hc 0 _ rfl
      have c1 := hc 1 _ rfl
      simp only [Nat.add_zero] at c0
      clear hc
      go_wp2_with fail
      refine (toEvent_any f0 f1 _).mono ?_
      rintro e w2 ⟨rfl, hs2⟩
      have hown2 := hown.same hs2
      have hss := hs.trans hs2
      clear hown hs2 hs c0 c1
      obtain ⟨u, hu⟩ : ∃ u, (mix L (List.replicate L.length (0, 0)) k)[k]? = some u := ⟨_, List.getElem?_eq_getElem (by rw [mix_length (by simp) (by omega)]; exact hlt)⟩
      obtain ⟨u0_, u1_⟩ := u
      obtain ⟨_, _, hd, hf⟩ := hown2.atg cEvent_len hu
      have hst := hown2.set cEvent_len (k := k) (by rw [mix_length (by simp) (by omega)]; exact hlt) (f0, f1)
      clear hown2 hu
      have d0 := hd 0 _ rfl
      have d1 := hd 1 _ rfl
      simp only [Nat.add_zero] at d0
      clear hd
      have hf0 := hf (k * 2)
      have hf1 := hf (k * 2 + 1)
      clear hf
      go_wp2
      go_roundw
      case rel =>
        refine ⟨k + 1, hlt, by go_num, ?_, hss.grown hst.out.2 (fun g hg => by injection hg with hg; omega)⟩
        have := hst.out.1
        rw [mix_set HX.out (by simp)] at this
        exact this
      case measure => simp [intOf]; omega
    · go_wp2
      go_ret
      refine ⟨rfl, ?_, hs⟩
      rwa [mix_full _ _ (by omega) (by simp)] at hown

theorem eqEvent_same (f0 : Int) (f1 : Int) (w : World) : Calls Tryz.prog 186 #[.agg #[.int .i64 f0, .int .i64 f1], .agg #[.int .i64 f0, .int .i64 f1]] w fun e w' => e = .returned (.bool true) ∧ Same w w' := by
  have b0 : (f0 != f0) = false := by simp
  have b1 : (f1 != f1) = false := by simp
  go_enter Tryz.func186, Tryz.ntmps186
  go_wp2
  go_ret
  exact ⟨rfl, ((Same.refl w).alloc _).alloc _⟩

set_option maxRecDepth 10000 in
set_option maxHeartbeats 1000000 in
theorem eqEventS_same (A B : Option Addr) (c d : Nat) (xs : List TEvent) (w : World) (hx : xs.length ≤ 9223372036854775807) (hA : AtEvent w A xs) (hB : AtEvent w B xs) :
    Calls Tryz.prog 150 #[.slice A xs.length c, .slice B xs.length d] w fun e w' => e = .returned (.bool true) ∧ Same w w' := by
  have hne : ((xs.length : Int) != (xs.length : Int)) = false := by simp
  go_enter Tryz.func150, Tryz.ntmps150
  go_wp2
  go_loopw [5] (fun i wr => ∃ k : Nat, k ≤ xs.length ∧ i = .int .i64 k ∧ Same w wr) (fun i _ => xs.length - (intOf i).toNat)
  case atStart => exact ⟨0, Nat.zero_le _, rfl, Same.refl _⟩
  case round =>
    obtain ⟨k, hk, rfl, hd⟩ := hrel
    by_cases hlt : k < xs.length
    · obtain ⟨b, off, x, rfl, hc, HX, _⟩ := (hA.same hd).at_ hlt
      obtain ⟨b', off', y, rfl, hc', HY, _⟩ := (hB.same hd).at_ hlt
      obtain rfl : x = y := Option.some.inj (HX.out.symm.trans HY.out)
      clear hA hB HX HY
      obtain ⟨f0, f1⟩ := x
      have c0 := hc 0 _ rfl
      have c1 := hc 1 _ rfl
      simp only [Nat.add_zero] at c0
      clear hc
      have e0 := hc' 0 _ rfl
      have e1 := hc' 1 _ rfl
      simp only [Nat.add_zero] at e0
      clear hc'
      go_wp2
      go_still_tail 8, (by kernel_rfl)
      change wpList _ _ _ _ _ wr.drew
      have hdr : Same w wr.drew := hd.drew
      generalize wr.drew = w2 at *
      go_wp2_with fail
      refine (eqEvent_same f0 f1 _).mono ?_
      rintro e w3 ⟨rfl, hs3⟩
      have hss := hdr.trans hs3
      clear c0 e0 c1 e1 hs3 hdr hd
      go_wp2
      go_roundw
      case rel => exact ⟨k + 1, hlt, by go_num, hss⟩
      case measure => simp [intOf]; omega
    · go_wp2
      go_ret
      exact ⟨rfl, hd⟩
end Go.Proofs.YtjfmknhnplefnaaGreat
