/-
  Rows of corrections: their cells, comparisons and appends.
-/
import Derived.Test.YtjfmknhnplefnaaGreatZFine
import Derived.Test.YtjfmknhnplefnaaGreatZVars
import Derived.Test.YtjfmknhnplefnaaGreatZBase
import Derived.Test.YtjfmknhnplefnaaGreatZPlain
import Derived.StillTailTactics
namespace Go.Proofs.YtjfmknhnplefnaaGreat
open Go.RowKit

abbrev TCorrection := TCorr
def cCorrection (x : TCorrection) : List Value := [.int .i64 x.1, .int .i64 x.2.1, .int .i64 x.2.2]
theorem cCorrection_len (x : TCorrection) : (cCorrection x).length = 3 := rfl
theorem cCorrection_one (x : TCorrection) : ∀ u ∈ cCorrection x, u.oneCell' = true := by
  intro u hu
  simp only [cCorrection, List.mem_cons, List.not_mem_nil, or_false] at hu
  rcases hu with rfl | rfl | rfl <;> rfl
theorem Tryz.infoCorrection : (Tryz.prog.info? 55).map (fun i => (i.zero, i.size, i.bytes)) = some (some (.agg #[.int .i64 0, .int .i64 0, .int .i64 0]), 3, 24) := by kernel_rfl
abbrev OwnCorrection (w : World) (base : Nat) (v : Value) (L : List TCorrection) : Prop := OwnR 55 3 cCorrection w base v L
abbrev AtCorrection (w : World) (A : Option Addr) (L : List TCorrection) : Prop := RecAt 3 cCorrection w A L

set_option maxHeartbeats 400000 in
theorem eqCorrection_any (f0 f1 f2 g0 g1 g2 : Int) (w : World) : Calls Tryz.prog 98 #[.agg #[.int .i64 f0, .int .i64 f1, .int .i64 f2], .agg #[.int .i64 g0, .int .i64 g1, .int .i64 g2]] w fun e w' => e = .returned (.bool (decide (((f0, f1, f2) : TCorrection) = (g0, g1, g2)))) ∧ Same w w' := by
  by_cases h0 : f0 = g0
  · subst h0
    have b0 : (f0 != f0) = false := by simp
    by_cases h1 : f1 = g1
    · subst h1
      have b1 : (f1 != f1) = false := by simp
      by_cases h2 : f2 = g2
      · subst h2
        have b2 : (f2 != f2) = false := by simp
        go_enter Tryz.func98, Tryz.ntmps98
        go_wp2
        go_ret
        exact ⟨rfl, ((Same.refl w).alloc _).alloc _⟩
      · have b2 : (f2 != g2) = true := by simp [h2]
        have HN := Lib.hid h2
        clear h2
        go_enter Tryz.func98, Tryz.ntmps98
        go_wp2
        go_ret
        exact ⟨ret_bool (Eq.symm (decide_eq_false (fun e => HN.out (by simpa using congrArg (fun x : TCorrection => x.2.2) e)))), ((Same.refl w).alloc _).alloc _⟩
    · have b1 : (f1 != g1) = true := by simp [h1]
      have HN := Lib.hid h1
      clear h1
      go_enter Tryz.func98, Tryz.ntmps98
      go_wp2
      go_ret
      exact ⟨ret_bool (Eq.symm (decide_eq_false (fun e => HN.out (by simpa using congrArg (fun x : TCorrection => x.2.1) e)))), ((Same.refl w).alloc _).alloc _⟩
  · have b0 : (f0 != g0) = true := by simp [h0]
    have HN := Lib.hid h0
    clear h0
    go_enter Tryz.func98, Tryz.ntmps98
    go_wp2
    go_ret
    exact ⟨ret_bool (Eq.symm (decide_eq_false (fun e => HN.out (by simpa using congrArg (fun x : TCorrection => x.1) e)))), ((Same.refl w).alloc _).alloc _⟩

set_option maxRecDepth 10000 in
set_option maxHeartbeats 1000000 in
theorem eqCorrectionS_any (A B : Option Addr) (c d : Nat) (xs ys : List TCorrection) (w : World) (hx : xs.length ≤ 9223372036854775807) (hy : ys.length ≤ 9223372036854775807) (hA : AtCorrection w A xs) (hB : AtCorrection w B ys) :
    Calls Tryz.prog 41 #[.slice A xs.length c, .slice B ys.length d] w fun e w' => e = .returned (.bool (decide (xs = ys))) ∧ Same w w' := by
  by_cases hl : xs.length = ys.length
  · have hne : ((xs.length : Int) != (ys.length : Int)) = false := by rw [hl]; simp
    have HL := Lib.hid hl
    clear hl
    go_enter Tryz.func41, Tryz.ntmps41
    go_wp2
    go_loopw [5] (fun i wr => ∃ k : Nat, k ≤ xs.length ∧ i = .int .i64 k ∧ Hid (xs.take k = ys.take k) ∧ Same w wr) (fun i _ => xs.length - (intOf i).toNat)
    case atStart => exact ⟨0, Nat.zero_le _, rfl, rfl, Same.refl _⟩
    case round =>
      obtain ⟨k, hk, rfl, hall, hd⟩ := hrel
      by_cases hlt : k < xs.length
      · obtain ⟨b, off, x, rfl, hc, HX, _⟩ := (hA.same hd).at_ hlt
        have hlt' : k < ys.length := by have := HL.out; omega
        obtain ⟨b', off', y, rfl, hc', HY, _⟩ := (hB.same hd).at_ hlt'
        clear hA hB
        obtain ⟨f0, f1, f2⟩ := x
        obtain ⟨g0, g1, g2⟩ := y
        have c0 := hc 0 _ rfl
        have c1 := hc 1 _ rfl
        have c2 := hc 2 _ rfl
        simp only [Nat.add_zero] at c0
        clear hc
        have e0 := hc' 0 _ rfl
        have e1 := hc' 1 _ rfl
        have e2 := hc' 2 _ rfl
        simp only [Nat.add_zero] at e0
        clear hc'
        go_wp2
        go_still_tail 8, (by kernel_rfl)
        change wpList _ _ _ _ _ wr.drew
        have hdr : Same w wr.drew := hd.drew
        generalize wr.drew = w2 at *
        go_wp2_with fail
        refine (eqCorrection_any f0 f1 f2 g0 g1 g2 _).mono ?_
        rintro e w3 ⟨rfl, hs3⟩
        have hss := hdr.trans hs3
        clear c0 e0 c1 e1 c2 e2 hs3 hdr hd
        by_cases hxy : ((f0, f1, f2) : TCorrection) = (g0, g1, g2)
        · rw [decide_eq_true hxy]
          have HXY := Lib.hid hxy
          clear hxy
          go_wp2
          go_roundw
          case rel => exact ⟨k + 1, hlt, by go_num, take_eq_succ hall.out HX.out (by rw [HXY.out]; exact HY.out), hss⟩
          case measure => simp [intOf]; omega
        · rw [decide_eq_false hxy]
          have HN := Lib.hid hxy
          clear hxy
          go_wp2
          go_ret
          refine ⟨ret_bool (Eq.symm (decide_eq_false (fun e => HN.out ?_))), hss⟩
          subst e
          exact Option.some.inj (HX.out.symm.trans HY.out)
      · go_wp2
        go_ret
        refine ⟨ret_bool (Eq.symm (decide_eq_true ?_)), hd⟩
        have h1 := hall.out
        have h2 := HL.out
        rw [show k = xs.length by omega, List.take_length, h2, List.take_length] at h1
        exact h1
  · have hne : ((xs.length : Int) != (ys.length : Int)) = true := by simp; omega
    have HL := Lib.hid hl
    clear hl
    go_enter Tryz.func41, Tryz.ntmps41
    go_wp2
    go_ret
    exact ⟨ret_bool (Eq.symm (decide_eq_false (fun e => HL.out (by rw [e])))), Same.refl _⟩

def markCorrection (k0 : Int) (m : Nat) : List TCorrection := (List.range m).map fun j : Nat => (k0 + 3 * (j : Int), k0 + 3 * (j : Int) + 1, k0 + 3 * (j : Int) + 1 + 1)
theorem markCorrection_at {k0 : Int} {m j : Nat} (h : j < m) : (markCorrection k0 m)[j]? = some (k0 + 3 * (j : Int), k0 + 3 * (j : Int) + 1, k0 + 3 * (j : Int) + 1 + 1) := by simp [markCorrection, h]
theorem markCorrection_length (k0 : Int) (m : Nat) : (markCorrection k0 m).length = m := by simp [markCorrection]

set_option maxHeartbeats 1000000 in
theorem markCorrectionS_any (A : Option Addr) (n c : Nat) (L : List TCorrection) (k0 : Int) (w : World) (base : Nat) (hl : L.length = n) (hz : L.length ≤ 2000000) (h0 : 0 ≤ k0) (h1 : k0 ≤ 1000000000) (hA : OwnCorrection w base (.slice A n c) L) {lo hi : Nat} (hzn : Zn (.slice A n c) lo hi) :
    Calls Tryz.prog 42 #[.slice A n c, .int .i64 k0] w fun e w' => e = .returned (.int .i64 (k0 + 3 * (n : Int))) ∧ OwnCorrection w' base (.slice A n c) (markCorrection k0 n) ∧ Upd lo hi w w' := by
  subst hl
  go_enter Tryz.func42, Tryz.ntmps42
  go_wp2
  go_loopw [1, 5] (fun q i wr => ∃ k : Nat, k ≤ L.length ∧ i = .int .i64 k ∧ q = .int .i64 (k0 + 3 * (k : Int)) ∧ OwnCorrection wr base (.slice A L.length c) (mix (markCorrection k0 L.length) L k) ∧ Upd lo hi w wr) (fun _ i _ => L.length - (intOf i).toNat)
  case atStart => exact ⟨0, Nat.zero_le _, rfl, by simp, by rw [mix_zero]; exact hA, (Same.refl w).upd _ _⟩
  case round =>
    obtain ⟨k, hk, rfl, rfl, hown, hu⟩ := hrel
    by_cases hlt : k < L.length
    · obtain ⟨u, hu'⟩ : ∃ u, (mix (markCorrection k0 L.length) L k)[k]? = some u := ⟨_, List.getElem?_eq_getElem (by rw [mix_length (by simp [markCorrection]) (by simp [markCorrection]; omega)]; simpa [markCorrection] using hlt)⟩
      obtain ⟨u0_, u1_, u2_⟩ := u
      obtain ⟨g, rfl, hb, hgs, hd, hf⟩ := OwnR.at_ cCorrection_len hown hu'
      have hst := hown.set cCorrection_len (k := k) (by rw [mix_length (by simp [markCorrection]) (by simp [markCorrection]; omega)]; simpa [markCorrection] using hlt) (k0 + 3 * (k : Int), k0 + 3 * (k : Int) + 1, k0 + 3 * (k : Int) + 1 + 1)
      clear hA hu' hown
      have hzg := hzn g rfl
      have d0 := hd 0 _ rfl
      have d1 := hd 1 _ rfl
      have d2 := hd 2 _ rfl
      simp only [Nat.add_zero] at d0
      clear hd
      have hf0 := hf (k * 3)
      have hf1 := hf (k * 3 + 1)
      have hf2 := hf (k * 3 + 2)
      clear hf
      go_wp2
      go_roundw
      case rel =>
        refine ⟨k + 1, hlt, by go_num, by go_num, ?_, hu.grown hst.out.2 hzg.1 hzg.2⟩
        have := hst.out.1
        rw [mix_set (markCorrection_at hlt) (by simp [markCorrection])] at this
        exact this
      case measure => simp [intOf]; omega
    · go_wp2
      go_ret
      refine ⟨ret_int (by omega), ?_, hu⟩
      rwa [mix_full _ _ (by simp [markCorrection]; omega) (by simp [markCorrection])] at hown

set_option maxHeartbeats 1000000 in
theorem heldCorrectionS_any (A : Option Addr) (n c : Nat) (k0 : Int) (w : World) (hz : n ≤ 2000000) (h0 : 0 ≤ k0) (h1 : k0 ≤ 1000000000) (hA : AtCorrection w A (markCorrection k0 n)) :
    Calls Tryz.prog 43 #[.slice A n c, .int .i64 k0] w fun e w' => e = .returned (.int .i64 (k0 + 3 * (n : Int))) ∧ Same w w' := by
  go_enter Tryz.func43, Tryz.ntmps43
  go_wp2
  go_loopw [1, 5] (fun q i wr => ∃ k : Nat, k ≤ n ∧ i = .int .i64 k ∧ q = .int .i64 (k0 + 3 * (k : Int)) ∧ Same w wr) (fun _ i _ => n - (intOf i).toNat)
  case atStart => exact ⟨0, Nat.zero_le _, rfl, by simp, Same.refl _⟩
  case round =>
    obtain ⟨k, hk, rfl, rfl, hs⟩ := hrel
    by_cases hlt : k < n
    · obtain ⟨b, off, x, rfl, hc, HX, _⟩ := (hA.same hs).at_ (k := k) (by rw [markCorrection_length]; exact hlt)
      obtain rfl : x = (k0 + 3 * (k : Int), k0 + 3 * (k : Int) + 1, k0 + 3 * (k : Int) + 1 + 1) := Option.some.inj (HX.out.symm.trans (markCorrection_at (k0 := k0) hlt))
      clear hA HX
      have c0 := hc 0 _ rfl
      have c1 := hc 1 _ rfl
      have c2 := hc 2 _ rfl
      simp only [Nat.add_zero] at c0
      clear hc
      have hb0 : ((k0 + 3 * (k : Int)) != (k0 + 3 * (k : Int))) = false := by simp
      have hb1 : ((k0 + 3 * (k : Int) + 1) != (k0 + 3 * (k : Int) + 1)) = false := by simp
      have hb2 : ((k0 + 3 * (k : Int) + 1 + 1) != (k0 + 3 * (k : Int) + 1 + 1)) = false := by simp
      go_wp2
      go_roundw
      case rel => exact ⟨k + 1, hlt, by go_num, by go_num, hs⟩
      case measure => simp [intOf]; omega
    · go_wp2
      go_ret
      exact ⟨ret_int (by omega), hs⟩

theorem wp_allCorrection (w : World) {o : Oper} {a : Act} {K : Act → World → Prop} {Q : Exit → Act → World → Prop} (s x : Operand)
    (ho : o.op = .call { callee := .builtin .append, args := #[s, x], argTypes := #[52, 52] })
    (base : Nat) (v : Value) (L : List TCorrection) (hs : a.eval s = v) (hown : OwnCorrection w base v L) (A : Option Addr) (c : Nat) (M : List TCorrection) (hx : a.eval x = .slice A M.length c) (hM : AtCorrection w A M) (hA : A = none → c = 0)
    (hn : L.length + M.length ≤ 1000000000) (hbase : base ≤ w.heap.size)
    (h : ∀ v' w', OwnCorrection w' base v' (L ++ M) → w.grownBy w' v.ownBlock → From w v v' → K (a.put o.dst v') w') : o.wp Tryz.prog a w K Q :=
  wp_fineR w s x 52 ho (.agg #[.int .i64 0, .int .i64 0, .int .i64 0]) 24 Tryz.underlying52 Tryz.infoCorrection rfl (by decide) cCorrection_len cCorrection_one base v L hs hown A c M hx hM hA hn (by decide) hbase h
theorem step_allCorrection (w : World) {ops : Array Oper} {o : Oper} {a : Act} {K : Act → World → Prop} {Q : Exit → Act → World → Prop} {E : Prop} (hg : o.guard = none) (s x : Operand)
    (ho : o.op = .call { callee := .builtin .append, args := #[s, x], argTypes := #[52, 52] })
    (base : Nat) (v : Value) (L : List TCorrection) (hs : a.eval s = v) (hown : OwnCorrection w base v L) (A : Option Addr) (c : Nat) (M : List TCorrection) (hx : a.eval x = .slice A M.length c) (hM : AtCorrection w A M) (hA : A = none → c = 0)
    (hn : L.length + M.length ≤ 1000000000) (hbase : base ≤ w.heap.size)
    (h : ∀ v' w', OwnCorrection w' base v' (L ++ M) → w.grownBy w' v.ownBlock → From w v v' → K (a.put o.dst v') w') :
    if Region.wanted o (yielded ops a.tmps) = true then Oper.wp Tryz.prog o a w K Q else E :=
  step_of hg (wp_allCorrection w s x ho base v L hs hown A c M hx hM hA hn hbase h)
/-- append of one record out of a new block. -/
theorem wp_oneCorrection (w : World) {o : Oper} {a : Act} {K : Act → World → Prop} {Q : Exit → Act → World → Prop} (s x : Operand)
    (ho : o.op = .call { callee := .builtin .append, args := #[s, x], argTypes := #[52, 52] })
    (base : Nat) (v : Value) (L : List TCorrection) (hs : a.eval s = v) (hown : OwnCorrection w base v L) (b c : Nat) (y : TCorrection) (hx : a.eval x = .slice (some ⟨b, 0, none⟩) 1 c) (hc : ∀ j u, (cCorrection y)[j]? = some u → w.cell? ⟨b, j, none⟩ = some u)
    (hn : L.length ≤ 1000000000 - 1) (hb : b < w.heap.size) (hbase : base ≤ w.heap.size)
    (h : ∀ v' w', OwnCorrection w' base v' (L ++ [y]) → w.grownBy w' v.ownBlock → From w v v' → K (a.put o.dst v') w') : o.wp Tryz.prog a w K Q := by
  refine wp_allCorrection w s x ho base v L hs hown (some ⟨b, 0, none⟩) c [y] hx (.inr ⟨b, 0, rfl, hb, fun k z hk j u hu => ?_⟩) (by simp) (by simp; omega) hbase h
  match k, hk with
  | 0, hk => simp at hk; subst hk; simpa using hc j u hu
theorem step_oneCorrection (w : World) {ops : Array Oper} {o : Oper} {a : Act} {K : Act → World → Prop} {Q : Exit → Act → World → Prop} {E : Prop} (hg : o.guard = none) (s x : Operand)
    (ho : o.op = .call { callee := .builtin .append, args := #[s, x], argTypes := #[52, 52] })
    (base : Nat) (v : Value) (L : List TCorrection) (hs : a.eval s = v) (hown : OwnCorrection w base v L) (b c : Nat) (y : TCorrection) (hx : a.eval x = .slice (some ⟨b, 0, none⟩) 1 c) (hc : ∀ j u, (cCorrection y)[j]? = some u → w.cell? ⟨b, j, none⟩ = some u)
    (hn : L.length ≤ 1000000000 - 1) (hb : b < w.heap.size) (hbase : base ≤ w.heap.size)
    (h : ∀ v' w', OwnCorrection w' base v' (L ++ [y]) → w.grownBy w' v.ownBlock → From w v v' → K (a.put o.dst v') w') :
    if Region.wanted o (yielded ops a.tmps) = true then Oper.wp Tryz.prog o a w K Q else E :=
  step_of hg (wp_oneCorrection w s x ho base v L hs hown b c y hx hc hn hb hbase h)
end Go.Proofs.YtjfmknhnplefnaaGreat
