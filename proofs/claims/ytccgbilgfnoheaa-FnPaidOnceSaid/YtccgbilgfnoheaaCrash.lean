/-
  A run and a bank handed back; RunCrash of the program.
-/
import Derived.Test.YtccgbilgfnoheaaAcceptI
import Derived.Test.YtccgbilgfnoheaaConfirmS
namespace Go.Proofs.Ytccgbilgfnoheaa
open Go.RowKit
set_option linter.unusedVariables false
set_option linter.unnecessarySimpa false

def RetRB (w : World) (m : Int) (L : List TItem) (K C : List Int) (e : Ending) (w' : World) : Prop :=
  ∃ A c B d D f, e = .returned (.tuple #[.agg #[.int .i64 m, .slice A L.length c], .agg #[.slice B K.length d, .slice D C.length f]]) ∧ OwnItem w' w.heap.size (.slice A L.length c) L ∧ OwnI w' w.heap.size (.slice B K.length d) K ∧ OwnI w' w.heap.size (.slice D C.length f) C ∧
    Sep (.slice A L.length c) (.slice B K.length d) ∧ Sep (.slice A L.length c) (.slice D C.length f) ∧ Sep (.slice B K.length d) (.slice D C.length f) ∧ Same w w'
def RetRBX (w : World) (m : Int) (L : List TItem) (K C : List Int) (x : Bool) (e : Ending) (w' : World) : Prop :=
  ∃ A c B d D f, e = .returned (.tuple #[.agg #[.int .i64 m, .slice A L.length c], .agg #[.slice B K.length d, .slice D C.length f], .bool x]) ∧ OwnItem w' w.heap.size (.slice A L.length c) L ∧ OwnI w' w.heap.size (.slice B K.length d) K ∧ OwnI w' w.heap.size (.slice D C.length f) C ∧
    Sep (.slice A L.length c) (.slice B K.length d) ∧ Sep (.slice A L.length c) (.slice D C.length f) ∧ Sep (.slice B K.length d) (.slice D C.length f) ∧ Same w w'

/-- A run and a bank laid into their boxes. -/
def lay4 (w : World) (R B : Nat) (r0 r1 b0 b1 : Value) : World := (((w.setCell ⟨R, 0, none⟩ r0).setCell ⟨R, 1, none⟩ r1).setCell ⟨B, 0, none⟩ b0).setCell ⟨B, 1, none⟩ b1
structure Laid4 (w W : World) (R B : Nat) (r0 r1 b0 b1 : Value) (base : Nat) (v u t : Value) (L : List TItem) (K C : List Int) : Prop where
  run : BoxAt W R 26 [r0, r1]
  bank : BoxAt W B 29 [b0, b1]
  items : OwnItem W base v L
  keys : OwnI W base u K
  cents : OwnI W base t C
  same : Same w W
theorem owns_set4 {a : World} {base : Nat} {e : TypeId} {s : Nat} {v : Value} {n : Nat} {xs : List Value} (h : a.ownsRow base e s v n xs) {R B : Nat} {r0 r1 b0 b1 : Value} (h1 : R < base) (h2 : B < base) : (lay4 a R B r0 r1 b0 b1).ownsRow base e s v n xs := by
  have n1 := Sep.box h h1
  have n2 := Sep.box h h2
  exact owns_set (owns_set (owns_set (owns_set h n1) n1) n2) n2
theorem laid4 {w w9 : World} {R B base : Nat} {x0 x1 y0 y1 v u t : Value} {L : List TItem} {K C : List Int} (hR : BoxAt w9 R 26 [x0, x1]) (hB : BoxAt w9 B 29 [y0, y1]) (hne : R ≠ B) (h1 : R < base) (h2 : B < base)
    (l1 : w.heap.size ≤ R) (l2 : w.heap.size ≤ B) (hs : Same w w9) (hoL : OwnItem w9 base v L) (hoK : OwnI w9 base u K) (hoC : OwnI w9 base t C) (r0 r1 b0 b1 : Value) : Laid4 w (lay4 w9 R B r0 r1 b0 b1) R B r0 r1 b0 b1 base v u t L K C :=
  ⟨(((hR.set 0 r0).set 1 r1).other _ hne).other _ hne, (((hB.other _ (Ne.symm hne)).other _ (Ne.symm hne)).set 0 b0).set 1 b1, owns_set4 hoL h1 h2, owns_set4 hoK h1 h2, owns_set4 hoC h1 h2, (((hs.setCell l1 _).setCell l1 _).setCell l2 _).setCell l2 _⟩

def opn (x : TItem) : TItem := (x.1, x.2.1, 0)
/-- The items as they are after a crash that has lost all from this one on. -/
def crash (m : Int) (L : List TItem) (lost : Int) : List TItem := if (runOk m L && decide (0 ≤ lost)) = true then mix L (L.map opn) lost.toNat else L
theorem crash_len (m : Int) (L : List TItem) (lost : Int) : (crash m L lost).length = L.length := by
  unfold crash mix; split <;> simp <;> omega
theorem mix_len2 {α : Type} {xs zs : List α} {k : Nat} (hl : xs.length = zs.length) : (mix xs zs k).length = xs.length := by unfold mix; simp; omega
/-- The items of a crash, one by one. -/
theorem mixmix {L : List TItem} {n k : Nat} {x : TItem} (hx : L[k]? = some x) : (mix L (L.map opn) n)[k]? = some (if n ≤ k then opn x else x) := by
  have hk := (List.getElem?_eq_some_iff.1 hx).1
  unfold mix
  by_cases h : n ≤ k
  · rw [List.getElem?_append_right (by simp; omega), List.getElem?_drop, List.length_take, Nat.min_eq_left (by omega), show n + (k - n) = k by omega, List.getElem?_map, hx, if_pos h]; rfl
  · rw [List.getElem?_append_left (by simp; omega), List.getElem?_take_of_lt (by omega), hx, if_neg h]
theorem mix_before {α : Type} {L M : List α} {n k : Nat} (hl : L.length = M.length) (hk : k ≤ n) : mix (mix L M n) L k = L := by
  unfold mix
  rw [List.take_append, List.take_take, Nat.min_eq_left hk, List.length_take]
  by_cases h : n ≤ L.length
  · rw [Nat.min_eq_left h, show k - n = 0 by omega]; simp
  · rw [show M.drop n = [] from List.drop_eq_nil_of_le (by omega)]; simp
theorem mix_big {α : Type} {L M : List α} {n : Nat} (hl : L.length = M.length) (hn : L.length ≤ n) : mix L M n = L := by
  unfold mix
  rw [List.take_of_length_le hn, List.drop_eq_nil_of_le (by omega)]; simp
theorem mix_min {α : Type} {L M : List α} {n : Nat} (hl : L.length = M.length) : mix L M (min n L.length) = mix L M n := by
  by_cases h : n ≤ L.length
  · rw [Nat.min_eq_left h]
  · rw [Nat.min_eq_right (by omega), mix_big hl (Nat.le_refl _), mix_big hl (by omega)]

set_option maxHeartbeats 400000 in
theorem iRunCrash_any (m : Int) (A : Option Addr) (c : Nat) (L : List TItem) (B : Option Addr) (d : Nat) (K : List Int) (D : Option Addr) (f : Nat) (C : List Int) (lost : Int) (w : World)
    (hz : L.length ≤ 1000000000) (hcap : L.length ≤ c) (hA : AtItem w A L) (hzK : K.length ≤ 1000000000) (hB : IntsAt w B K) (hzC : C.length ≤ 1000000000) (hD : IntsAt w D C) :
    Calls Try.prog 19 #[.agg #[.int .i64 m, .slice A L.length c], .agg #[.slice B K.length d, .slice D C.length f], .int .i64 lost] w (RetRB w m (crash m L lost) K C) := by
  have hz' : L.length ≤ 9223372036854775807 := by omega
  go_enter Try.func19, Try.ntmps19
  go_wp2_with fail
  have h1 : BoxAt ((((w.alloc (.cells #[.int .i64 m, .slice A L.length c] 26)).alloc (.cells #[.slice B K.length d, .slice D C.length f] 29)).alloc (.cells #[.int .i64 0, .slice none 0 0] 26)).alloc (.cells #[.slice none 0 0, .slice none 0 0] 29)) (w.heap.size) 26 [.int .i64 m, .slice A L.length c] := by simpa using (BoxAt.alloc (BoxAt.alloc (BoxAt.alloc (BoxAt.new w 26 [.int .i64 m, .slice A L.length c]) (.cells #[.slice B K.length d, .slice D C.length f] 29)) (.cells #[.int .i64 0, .slice none 0 0] 26)) (.cells #[.slice none 0 0, .slice none 0 0] 29))
  have h2 : BoxAt ((((w.alloc (.cells #[.int .i64 m, .slice A L.length c] 26)).alloc (.cells #[.slice B K.length d, .slice D C.length f] 29)).alloc (.cells #[.int .i64 0, .slice none 0 0] 26)).alloc (.cells #[.slice none 0 0, .slice none 0 0] 29)) (w.heap.size + 1) 29 [.slice B K.length d, .slice D C.length f] := by simpa using (BoxAt.alloc (BoxAt.alloc (BoxAt.new (w.alloc (.cells #[.int .i64 m, .slice A L.length c] 26)) 29 [.slice B K.length d, .slice D C.length f]) (.cells #[.int .i64 0, .slice none 0 0] 26)) (.cells #[.slice none 0 0, .slice none 0 0] 29))
  have h3 : BoxAt ((((w.alloc (.cells #[.int .i64 m, .slice A L.length c] 26)).alloc (.cells #[.slice B K.length d, .slice D C.length f] 29)).alloc (.cells #[.int .i64 0, .slice none 0 0] 26)).alloc (.cells #[.slice none 0 0, .slice none 0 0] 29)) (w.heap.size + 1 + 1) 26 [.int .i64 0, .slice none 0 0] := by simpa using (BoxAt.alloc (BoxAt.new ((w.alloc (.cells #[.int .i64 m, .slice A L.length c] 26)).alloc (.cells #[.slice B K.length d, .slice D C.length f] 29)) 26 [.int .i64 0, .slice none 0 0]) (.cells #[.slice none 0 0, .slice none 0 0] 29))
  have h4 : BoxAt ((((w.alloc (.cells #[.int .i64 m, .slice A L.length c] 26)).alloc (.cells #[.slice B K.length d, .slice D C.length f] 29)).alloc (.cells #[.int .i64 0, .slice none 0 0] 26)).alloc (.cells #[.slice none 0 0, .slice none 0 0] 29)) (w.heap.size + 1 + 1 + 1) 29 [.slice none 0 0, .slice none 0 0] := by simpa using (BoxAt.new (((w.alloc (.cells #[.int .i64 m, .slice A L.length c] 26)).alloc (.cells #[.slice B K.length d, .slice D C.length f] 29)).alloc (.cells #[.int .i64 0, .slice none 0 0] 26)) 29 [.slice none 0 0, .slice none 0 0])
  have hs0 := (Same.alloc (Same.alloc (Same.alloc (Same.alloc (Same.refl w) (.cells #[.int .i64 m, .slice A L.length c] 26)) (.cells #[.slice B K.length d, .slice D C.length f] 29)) (.cells #[.int .i64 0, .slice none 0 0] 26)) (.cells #[.slice none 0 0, .slice none 0 0] 29))
  generalize ((((w.alloc (.cells #[.int .i64 m, .slice A L.length c] 26)).alloc (.cells #[.slice B K.length d, .slice D C.length f] 29)).alloc (.cells #[.int .i64 0, .slice none 0 0] 26)).alloc (.cells #[.slice none 0 0, .slice none 0 0] 29)) = w0 at *
  have n0 := hs0.size
  have n4 := h4.lt
  refine (copyRun_any m A c L _ hz (hA.same hs0)).mono ?_
  rintro e w1 ⟨A1, c1, rfl, ho, hs1⟩
  have n1 := hs1.size
  have hb := BoxAt.new w1 26 [.int .i64 m, .slice A1 L.length c1]
  have hs2 := (Same.refl w1).alloc (.cells #[.int .i64 m, .slice A1 L.length c1] 26)
  have hsz2 : (w1.alloc (.cells #[.int .i64 m, .slice A1 L.length c1] 26)).heap.size = w1.heap.size + 1 := by simp
  have hlb : ∀ g, Value.ownBlock (.slice A1 L.length c1) = some g → w0.heap.size ≤ g ∧ g < w1.heap.size := fun g hg => owns_new ho g hg
  have hsx := hs1.trans hs2
  replace ho := ho.same hs2
  have hq1 := h1.same hsx
  have r0 := hq1.cell 0 rfl
  have r1 := hq1.cell 1 rfl
  go_wp2_with fail
  generalize w1.alloc (.cells #[.int .i64 m, .slice A1 L.length c1] 26) = w2 at *
  clear hs1 hs2
  refine (iRunOk_any m A c L _ hz' hcap ((hA.same hs0).same hsx)).mono ?_
  rintro e w3 ⟨rfl, hs3⟩
  replace hsx := hsx.trans hs3
  replace ho := ho.same hs3
  replace hb := hb.same hs3
  have n5 := hs3.size
  clear hs3 r0 r1 hq1
  cases m1 : runOk m L
  · have HF := Lib.hid (show crash m L lost = L by simp [crash, m1])
    clear m1
    have nq := Same.size hsx
    have b0 := hb.cell 0 rfl
    have b1 := hb.cell 1 rfl
    have s20 := (h2.same hsx).cell 0 rfl
    have s21 := (h2.same hsx).cell 1 rfl
    have nlt := hb.lt
    go_wp2_with fail
    go_region_held3 (fun x => x.cell? ⟨w1.heap.size, 0, none⟩ = some (.int .i64 m) ∧ x.cell? ⟨w1.heap.size, 1, none⟩ = some (.slice A1 L.length c1) ∧ x.cell? ⟨w.heap.size + 1, 0, none⟩ = some (.slice B K.length d) ∧ x.cell? ⟨w.heap.size + 1, 1, none⟩ = some (.slice D C.length f))
      (first | (with_reducible exact ⟨qb0, qb1, q20, q21⟩) | (with_reducible exact ⟨pb0, pb1, p20, p21⟩) | (with_reducible exact ⟨kb0, kb1, k20, k21⟩) | exact ⟨b0, b1, s20, s21⟩)
      ((go_at_call 54; refine (copyBank_any B d K D f C _ hzK ((hB.same hs0).same (hsx.trans (Same.refl _).drew)) hzC ((hD.same hs0).same (hsx.trans (Same.refl _).drew))).mono ?_; rintro e w9 ⟨AK, cK, AC, cC, rfl, hoK, hoC, spq, hs9⟩; (have hsd := (Same.refl _).drew.trans hs9); (have kb := hb.same hsd); (have k2 := (h2.same hsx).same hsd); (have k3 := (h3.same hsx).same hsd); (have k4 := (h4.same hsx).same hsd); (have x30 := k3.cell 0 rfl); (have x31 := k3.cell 1 rfl); (have y30 := k3.frozen 0); (have y31 := k3.frozen 1); (have x40 := k4.cell 0 rfl); (have x41 := k4.cell 1 rfl); (have y40 := k4.frozen 0); (have y41 := k4.frozen 1); (have kb0 := kb.cell 0 rfl); (have kb1 := kb.cell 1 rfl); (have k20 := k2.cell 0 rfl); (have k21 := k2.cell 1 rfl); (have pb := (kb.other (k := w.heap.size + 1 + 1) (j := 0) (.int .i64 m) (by omega)).other (k := w.heap.size + 1 + 1) (j := 1) (.slice A1 L.length c1) (by omega)); (have p2 := (k2.other (k := w.heap.size + 1 + 1) (j := 0) (.int .i64 m) (by omega)).other (k := w.heap.size + 1 + 1) (j := 1) (.slice A1 L.length c1) (by omega)); (have pb0 := pb.cell 0 rfl); (have pb1 := pb.cell 1 rfl); (have p20 := p2.cell 0 rfl); (have p21 := p2.cell 1 rfl); (have qb := (pb.other (k := w.heap.size + 1 + 1 + 1) (j := 0) (.slice AK K.length cK) (by omega)).other (k := w.heap.size + 1 + 1 + 1) (j := 1) (.slice AC C.length cC) (by omega)); (have q2 := (p2.other (k := w.heap.size + 1 + 1 + 1) (j := 0) (.slice AK K.length cK) (by omega)).other (k := w.heap.size + 1 + 1 + 1) (j := 1) (.slice AC C.length cC) (by omega)); (have qb0 := qb.cell 0 rfl); (have qb1 := qb.cell 1 rfl); (have q20 := q2.cell 0 rfl); (have q21 := q2.cell 1 rfl)))
    have nq9 : _ ≤ w9.heap.size := hs9.size
    have F := laid4 (w := w) k3 k4 (by omega) (base := w0.heap.size) (by omega) (by omega) (by omega) (by omega) ((hs0.trans hsx).trans hsd) (ho.same hsd) (hoK.base (by first | exact nq | simpa using nq)) (hoC.base (by first | exact nq | simpa using nq)) (.int .i64 m) (.slice A1 L.length c1) (.slice AK K.length cK) (.slice AC C.length cC)
    have sa := Sep.new ho hoK (by first | exact Nat.le_refl _ | simp)
    have sb := Sep.new ho hoC (by first | exact Nat.le_refl _ | simp)
    clear kb k2 k3 k4 pb p2 qb q2 kb0 kb1 k20 k21 pb0 pb1 p20 p21 qb0 qb1 q20 q21 x30 x31 x40 x41 y30 y31 y40 y41 b0 b1 s20 s21
    have F0 := F.run.cell 0 rfl
    have F1 := F.run.cell 1 rfl
    have F2 := F.bank.cell 0 rfl
    have F3 := F.bank.cell 1 rfl
    unfold lay4 at F0 F1 F2 F3
    go_wp2
    show bodyPost _ _ _ _ _ _
    rw [HF.out]
    exact bodyPost_ret (v := .tuple #[.agg #[.int .i64 m, .slice A1 L.length c1], .agg #[.slice AK K.length cK, .slice AC C.length cC]]) (by simp [results, Try.results19, go_sem, F0, F1, F2, F3]) rfl ⟨_, _, _, _, _, _, rfl, F.items.rebase n0, F.keys.base n0, F.cents.base n0, sa, sb, spq, F.same⟩
  · by_cases hlo : 0 ≤ lost
    · have HF := Lib.hid (show crash m L lost = mix L (L.map opn) lost.toNat by simp [crash, m1, hlo])
      clear m1
      obtain ⟨n, rfl⟩ := Int.eq_ofNat_of_zero_le hlo
      clear hlo
      have b1 := hb.cell 1 rfl
      by_cases hnl : n ≤ L.length
      · have hnl' : (n : Int) ≤ (L.length : Int) := by omega
        obtain ⟨T, hT⟩ : ∃ T, T = mix L (L.map opn) n := ⟨_, rfl⟩
        have HL := Lib.hid (show T.length = L.length by rw [hT]; exact mix_len2 (by simp))
        have HS := Lib.hid (show mix T L n = L by rw [hT]; exact mix_before (by simp) (Nat.le_refl _))
        have HA := Lib.hid (show ∀ k x, n ≤ k → L[k]? = some x → T[k]? = some (opn x) from fun k x h hx => by rw [hT, mixmix hx, if_pos h])
        rw [Int.toNat_natCast, ← hT] at HF
        clear hT
        go_wp2
        clear b1
        go_loopw [9] (fun i wr => ∃ k : Nat, n ≤ k ∧ k ≤ L.length ∧ i = .int .i64 k ∧ OwnItem wr w0.heap.size (.slice A1 L.length c1) (mix T L k) ∧ BoxAt wr w1.heap.size 26 [.int .i64 m, .slice A1 L.length c1] ∧ Same w0 wr) (fun i _ => L.length - (intOf i).toNat)
        case atStart => exact ⟨n, Nat.le_refl _, hnl, rfl, by rw [HS.out]; exact ho, hb, hsx⟩
        case round =>
          obtain ⟨k, hnk, hk, rfl, hown, hb, hs⟩ := hrel
          clear ho hsx
          have b1 := hb.cell 1 rfl
          by_cases hlt : k < L.length
          · obtain ⟨x, hx⟩ : ∃ x, L[k]? = some x := ⟨_, List.getElem?_eq_getElem hlt⟩
            have hxm := (mix_at (xs := T) HL.out hlt).trans hx
            obtain ⟨g, rfl, _⟩ := OwnR.at_ cItem_len hown hxm
            obtain ⟨_, _, hd, hf⟩ := OwnR.atg cItem_len hown hxm
            have HX := Lib.hid (HA.out k x hnk hx)
            have HXM := Lib.hid hxm
            have hgb := hlb g rfl
            clear hx hxm hlb
            obtain ⟨f0, f1, f2⟩ := x
            have d2 := hd 2 _ rfl
            have e2 := hf (k * 3 + 2)
            clear hd hf
            have hst := OwnR.setc cItem_len hown (k := k) (j := 2) (x := (f0, f1, f2)) (y := (f0, f1, 0)) (u := .int .i64 0) HXM.out (by decide) rfl
            have hss := hs.grown hst.2 (by intro g' hg'; injection hg' with hg'; omega)
            have hbb := (hst.2.block _ hb.lt (by intro e; injection e with e; omega)).trans hb
            have HOWN := Lib.hid (show OwnItem _ _ _ (mix T L (k + 1)) by rw [← mix_set (x := (f0, f1, 0)) HX.out HL.out]; exact hst.1)
            have HB := Lib.hid hbb
            clear hst hown
            go_wp2
            go_roundw
            case rel => exact ⟨k + 1, by omega, hlt, by go_num, HOWN.out, HB.out, hss⟩
            case measure => simp [intOf]; omega
          · have hkl : k = L.length := by omega
            rw [mix_full _ _ (by rw [HL.out]; exact hkl) HL.out] at hown
            have HLT := Lib.hid (show OwnItem wr w0.heap.size (.slice A1 T.length c1) T by rw [HL.out]; exact hown)
            have HB := Lib.hid (show BoxAt wr w1.heap.size 26 [.int .i64 m, .slice A1 T.length c1] by rw [HL.out]; exact hb)
            clear hown hlb
            have HOWN := HLT.out
            go_wp2_with fail
            replace hb := HB.out
            have nq := Same.size hs
            have b0 := hb.cell 0 rfl
            have b1 := hb.cell 1 rfl
            have s20 := (h2.same hs).cell 0 rfl
            have s21 := (h2.same hs).cell 1 rfl
            have nlt := hb.lt
            go_wp2_with fail
            go_region_held3 (fun x => x.cell? ⟨w1.heap.size, 0, none⟩ = some (.int .i64 m) ∧ x.cell? ⟨w1.heap.size, 1, none⟩ = some (.slice A1 T.length c1) ∧ x.cell? ⟨w.heap.size + 1, 0, none⟩ = some (.slice B K.length d) ∧ x.cell? ⟨w.heap.size + 1, 1, none⟩ = some (.slice D C.length f))
              (first | (with_reducible exact ⟨qb0, qb1, q20, q21⟩) | (with_reducible exact ⟨pb0, pb1, p20, p21⟩) | (with_reducible exact ⟨kb0, kb1, k20, k21⟩) | exact ⟨b0, b1, s20, s21⟩)
              ((go_at_call 54; refine (copyBank_any B d K D f C _ hzK ((hB.same hs0).same (hs.trans (Same.refl _).drew)) hzC ((hD.same hs0).same (hs.trans (Same.refl _).drew))).mono ?_; rintro e w9 ⟨AK, cK, AC, cC, rfl, hoK, hoC, spq, hs9⟩; (have hsd := (Same.refl _).drew.trans hs9); (have kb := hb.same hsd); (have k2 := (h2.same hs).same hsd); (have k3 := (h3.same hs).same hsd); (have k4 := (h4.same hs).same hsd); (have x30 := k3.cell 0 rfl); (have x31 := k3.cell 1 rfl); (have y30 := k3.frozen 0); (have y31 := k3.frozen 1); (have x40 := k4.cell 0 rfl); (have x41 := k4.cell 1 rfl); (have y40 := k4.frozen 0); (have y41 := k4.frozen 1); (have kb0 := kb.cell 0 rfl); (have kb1 := kb.cell 1 rfl); (have k20 := k2.cell 0 rfl); (have k21 := k2.cell 1 rfl); (have pb := (kb.other (k := w.heap.size + 1 + 1) (j := 0) (.int .i64 m) (by omega)).other (k := w.heap.size + 1 + 1) (j := 1) (.slice A1 T.length c1) (by omega)); (have p2 := (k2.other (k := w.heap.size + 1 + 1) (j := 0) (.int .i64 m) (by omega)).other (k := w.heap.size + 1 + 1) (j := 1) (.slice A1 T.length c1) (by omega)); (have pb0 := pb.cell 0 rfl); (have pb1 := pb.cell 1 rfl); (have p20 := p2.cell 0 rfl); (have p21 := p2.cell 1 rfl); (have qb := (pb.other (k := w.heap.size + 1 + 1 + 1) (j := 0) (.slice AK K.length cK) (by omega)).other (k := w.heap.size + 1 + 1 + 1) (j := 1) (.slice AC C.length cC) (by omega)); (have q2 := (p2.other (k := w.heap.size + 1 + 1 + 1) (j := 0) (.slice AK K.length cK) (by omega)).other (k := w.heap.size + 1 + 1 + 1) (j := 1) (.slice AC C.length cC) (by omega)); (have qb0 := qb.cell 0 rfl); (have qb1 := qb.cell 1 rfl); (have q20 := q2.cell 0 rfl); (have q21 := q2.cell 1 rfl)))
            have nq9 : _ ≤ w9.heap.size := hs9.size
            have F := laid4 (w := w) k3 k4 (by omega) (base := w0.heap.size) (by omega) (by omega) (by omega) (by omega) ((hs0.trans hs).trans hsd) (HOWN.same hsd) (hoK.base (by first | exact nq | simpa using nq)) (hoC.base (by first | exact nq | simpa using nq)) (.int .i64 m) (.slice A1 T.length c1) (.slice AK K.length cK) (.slice AC C.length cC)
            have sa := Sep.new HOWN hoK (by first | exact Nat.le_refl _ | simp)
            have sb := Sep.new HOWN hoC (by first | exact Nat.le_refl _ | simp)
            clear kb k2 k3 k4 pb p2 qb q2 kb0 kb1 k20 k21 pb0 pb1 p20 p21 qb0 qb1 q20 q21 x30 x31 x40 x41 y30 y31 y40 y41 b0 b1 s20 s21
            have F0 := F.run.cell 0 rfl
            have F1 := F.run.cell 1 rfl
            have F2 := F.bank.cell 0 rfl
            have F3 := F.bank.cell 1 rfl
            unfold lay4 at F0 F1 F2 F3
            go_wp2
            show bodyPost _ _ _ _ _ _
            rw [HF.out]
            exact bodyPost_ret (v := .tuple #[.agg #[.int .i64 m, .slice A1 T.length c1], .agg #[.slice AK K.length cK, .slice AC C.length cC]]) (by simp [results, Try.results19, go_sem, F0, F1, F2, F3]) rfl ⟨_, _, _, _, _, _, rfl, F.items.rebase n0, F.keys.base n0, F.cents.base n0, sa, sb, spq, F.same⟩
      · have hnl' : (L.length : Int) < (n : Int) := by omega
        have HF2 := Lib.hid (show crash m L n = L by rw [HF.out]; exact mix_big (by simp) (by simp; omega))
        go_wp2
        clear b1
        go_loopw [9] (fun i wr => i = .int .i64 (L.length : Int) ∧ OwnItem wr w0.heap.size (.slice A1 L.length c1) L ∧ BoxAt wr w1.heap.size 26 [.int .i64 m, .slice A1 L.length c1] ∧ Same w0 wr) (fun i _ => 0)
        case atStart => exact ⟨rfl, ho, hb, hsx⟩
        case round =>
          obtain ⟨rfl, hown, hb, hs⟩ := hrel
          clear ho hsx
          have b1 := hb.cell 1 rfl
          go_wp2_with fail
          have nq := Same.size hs
          have b0 := hb.cell 0 rfl
          have b1 := hb.cell 1 rfl
          have s20 := (h2.same hs).cell 0 rfl
          have s21 := (h2.same hs).cell 1 rfl
          have nlt := hb.lt
          go_wp2_with fail
          go_region_held3 (fun x => x.cell? ⟨w1.heap.size, 0, none⟩ = some (.int .i64 m) ∧ x.cell? ⟨w1.heap.size, 1, none⟩ = some (.slice A1 L.length c1) ∧ x.cell? ⟨w.heap.size + 1, 0, none⟩ = some (.slice B K.length d) ∧ x.cell? ⟨w.heap.size + 1, 1, none⟩ = some (.slice D C.length f))
            (first | (with_reducible exact ⟨qb0, qb1, q20, q21⟩) | (with_reducible exact ⟨pb0, pb1, p20, p21⟩) | (with_reducible exact ⟨kb0, kb1, k20, k21⟩) | exact ⟨b0, b1, s20, s21⟩)
            ((go_at_call 54; refine (copyBank_any B d K D f C _ hzK ((hB.same hs0).same (hs.trans (Same.refl _).drew)) hzC ((hD.same hs0).same (hs.trans (Same.refl _).drew))).mono ?_; rintro e w9 ⟨AK, cK, AC, cC, rfl, hoK, hoC, spq, hs9⟩; (have hsd := (Same.refl _).drew.trans hs9); (have kb := hb.same hsd); (have k2 := (h2.same hs).same hsd); (have k3 := (h3.same hs).same hsd); (have k4 := (h4.same hs).same hsd); (have x30 := k3.cell 0 rfl); (have x31 := k3.cell 1 rfl); (have y30 := k3.frozen 0); (have y31 := k3.frozen 1); (have x40 := k4.cell 0 rfl); (have x41 := k4.cell 1 rfl); (have y40 := k4.frozen 0); (have y41 := k4.frozen 1); (have kb0 := kb.cell 0 rfl); (have kb1 := kb.cell 1 rfl); (have k20 := k2.cell 0 rfl); (have k21 := k2.cell 1 rfl); (have pb := (kb.other (k := w.heap.size + 1 + 1) (j := 0) (.int .i64 m) (by omega)).other (k := w.heap.size + 1 + 1) (j := 1) (.slice A1 L.length c1) (by omega)); (have p2 := (k2.other (k := w.heap.size + 1 + 1) (j := 0) (.int .i64 m) (by omega)).other (k := w.heap.size + 1 + 1) (j := 1) (.slice A1 L.length c1) (by omega)); (have pb0 := pb.cell 0 rfl); (have pb1 := pb.cell 1 rfl); (have p20 := p2.cell 0 rfl); (have p21 := p2.cell 1 rfl); (have qb := (pb.other (k := w.heap.size + 1 + 1 + 1) (j := 0) (.slice AK K.length cK) (by omega)).other (k := w.heap.size + 1 + 1 + 1) (j := 1) (.slice AC C.length cC) (by omega)); (have q2 := (p2.other (k := w.heap.size + 1 + 1 + 1) (j := 0) (.slice AK K.length cK) (by omega)).other (k := w.heap.size + 1 + 1 + 1) (j := 1) (.slice AC C.length cC) (by omega)); (have qb0 := qb.cell 0 rfl); (have qb1 := qb.cell 1 rfl); (have q20 := q2.cell 0 rfl); (have q21 := q2.cell 1 rfl)))
          have nq9 : _ ≤ w9.heap.size := hs9.size
          have F := laid4 (w := w) k3 k4 (by omega) (base := w0.heap.size) (by omega) (by omega) (by omega) (by omega) ((hs0.trans hs).trans hsd) (hown.same hsd) (hoK.base (by first | exact nq | simpa using nq)) (hoC.base (by first | exact nq | simpa using nq)) (.int .i64 m) (.slice A1 L.length c1) (.slice AK K.length cK) (.slice AC C.length cC)
          have sa := Sep.new hown hoK (by first | exact Nat.le_refl _ | simp)
          have sb := Sep.new hown hoC (by first | exact Nat.le_refl _ | simp)
          clear kb k2 k3 k4 pb p2 qb q2 kb0 kb1 k20 k21 pb0 pb1 p20 p21 qb0 qb1 q20 q21 x30 x31 x40 x41 y30 y31 y40 y41 b0 b1 s20 s21
          have F0 := F.run.cell 0 rfl
          have F1 := F.run.cell 1 rfl
          have F2 := F.bank.cell 0 rfl
          have F3 := F.bank.cell 1 rfl
          unfold lay4 at F0 F1 F2 F3
          go_wp2
          show bodyPost _ _ _ _ _ _
          rw [HF2.out]
          exact bodyPost_ret (v := .tuple #[.agg #[.int .i64 m, .slice A1 L.length c1], .agg #[.slice AK K.length cK, .slice AC C.length cC]]) (by simp [results, Try.results19, go_sem, F0, F1, F2, F3]) rfl ⟨_, _, _, _, _, _, rfl, F.items.rebase n0, F.keys.base n0, F.cents.base n0, sa, sb, spq, F.same⟩
    · have HF := Lib.hid (show crash m L lost = L by simp [crash, hlo])
      clear m1
      have hlo' : lost < 0 := by omega
      have nq := Same.size hsx
      have b0 := hb.cell 0 rfl
      have b1 := hb.cell 1 rfl
      have s20 := (h2.same hsx).cell 0 rfl
      have s21 := (h2.same hsx).cell 1 rfl
      have nlt := hb.lt
      go_wp2_with fail
      go_region_held3 (fun x => x.cell? ⟨w1.heap.size, 0, none⟩ = some (.int .i64 m) ∧ x.cell? ⟨w1.heap.size, 1, none⟩ = some (.slice A1 L.length c1) ∧ x.cell? ⟨w.heap.size + 1, 0, none⟩ = some (.slice B K.length d) ∧ x.cell? ⟨w.heap.size + 1, 1, none⟩ = some (.slice D C.length f))
        (first | (with_reducible exact ⟨qb0, qb1, q20, q21⟩) | (with_reducible exact ⟨pb0, pb1, p20, p21⟩) | (with_reducible exact ⟨kb0, kb1, k20, k21⟩) | exact ⟨b0, b1, s20, s21⟩)
        ((go_at_call 54; refine (copyBank_any B d K D f C _ hzK ((hB.same hs0).same (hsx.trans (Same.refl _).drew)) hzC ((hD.same hs0).same (hsx.trans (Same.refl _).drew))).mono ?_; rintro e w9 ⟨AK, cK, AC, cC, rfl, hoK, hoC, spq, hs9⟩; (have hsd := (Same.refl _).drew.trans hs9); (have kb := hb.same hsd); (have k2 := (h2.same hsx).same hsd); (have k3 := (h3.same hsx).same hsd); (have k4 := (h4.same hsx).same hsd); (have x30 := k3.cell 0 rfl); (have x31 := k3.cell 1 rfl); (have y30 := k3.frozen 0); (have y31 := k3.frozen 1); (have x40 := k4.cell 0 rfl); (have x41 := k4.cell 1 rfl); (have y40 := k4.frozen 0); (have y41 := k4.frozen 1); (have kb0 := kb.cell 0 rfl); (have kb1 := kb.cell 1 rfl); (have k20 := k2.cell 0 rfl); (have k21 := k2.cell 1 rfl); (have pb := (kb.other (k := w.heap.size + 1 + 1) (j := 0) (.int .i64 m) (by omega)).other (k := w.heap.size + 1 + 1) (j := 1) (.slice A1 L.length c1) (by omega)); (have p2 := (k2.other (k := w.heap.size + 1 + 1) (j := 0) (.int .i64 m) (by omega)).other (k := w.heap.size + 1 + 1) (j := 1) (.slice A1 L.length c1) (by omega)); (have pb0 := pb.cell 0 rfl); (have pb1 := pb.cell 1 rfl); (have p20 := p2.cell 0 rfl); (have p21 := p2.cell 1 rfl); (have qb := (pb.other (k := w.heap.size + 1 + 1 + 1) (j := 0) (.slice AK K.length cK) (by omega)).other (k := w.heap.size + 1 + 1 + 1) (j := 1) (.slice AC C.length cC) (by omega)); (have q2 := (p2.other (k := w.heap.size + 1 + 1 + 1) (j := 0) (.slice AK K.length cK) (by omega)).other (k := w.heap.size + 1 + 1 + 1) (j := 1) (.slice AC C.length cC) (by omega)); (have qb0 := qb.cell 0 rfl); (have qb1 := qb.cell 1 rfl); (have q20 := q2.cell 0 rfl); (have q21 := q2.cell 1 rfl)))
      have nq9 : _ ≤ w9.heap.size := hs9.size
      have F := laid4 (w := w) k3 k4 (by omega) (base := w0.heap.size) (by omega) (by omega) (by omega) (by omega) ((hs0.trans hsx).trans hsd) (ho.same hsd) (hoK.base (by first | exact nq | simpa using nq)) (hoC.base (by first | exact nq | simpa using nq)) (.int .i64 m) (.slice A1 L.length c1) (.slice AK K.length cK) (.slice AC C.length cC)
      have sa := Sep.new ho hoK (by first | exact Nat.le_refl _ | simp)
      have sb := Sep.new ho hoC (by first | exact Nat.le_refl _ | simp)
      clear kb k2 k3 k4 pb p2 qb q2 kb0 kb1 k20 k21 pb0 pb1 p20 p21 qb0 qb1 q20 q21 x30 x31 x40 x41 y30 y31 y40 y41 b0 b1 s20 s21
      have F0 := F.run.cell 0 rfl
      have F1 := F.run.cell 1 rfl
      have F2 := F.bank.cell 0 rfl
      have F3 := F.bank.cell 1 rfl
      unfold lay4 at F0 F1 F2 F3
      go_wp2
      show bodyPost _ _ _ _ _ _
      rw [HF.out]
      exact bodyPost_ret (v := .tuple #[.agg #[.int .i64 m, .slice A1 L.length c1], .agg #[.slice AK K.length cK, .slice AC C.length cC]]) (by simp [results, Try.results19, go_sem, F0, F1, F2, F3]) rfl ⟨_, _, _, _, _, _, rfl, F.items.rebase n0, F.keys.base n0, F.cents.base n0, sa, sb, spq, F.same⟩
end Go.Proofs.Ytccgbilgfnoheaa
