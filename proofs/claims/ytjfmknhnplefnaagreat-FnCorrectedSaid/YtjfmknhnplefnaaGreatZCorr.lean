/- Joined of CorrRec, Corrs, First, NetE: what is proved stands ahead of each part. -/
import Derived.Test.YtjfmknhnplefnaaGreatZFine
import Derived.Test.YtjfmknhnplefnaaGreatZVars
import Derived.Test.YtjfmknhnplefnaaGreatZBase
import Derived.Test.YtjfmknhnplefnaaGreatZPlain
import Derived.StillTailTactics
import Derived.Test.YtjfmknhnplefnaaGreatZEnts
import Derived.Deep.RegionLaw
import Derived.Deep.RegionHeld3

section
/-
  Rows of corrections: their cells, comparisons and appends.
-/
namespace Go.Proofs.YtjfmknhnplefnaaGreat
open Go.RowKit

abbrev TCorrection := TCorr
def cCorrection (x : TCorrection) : List Value := [.int .i64 x.1, .int .i64 x.2.1, .int .i64 x.2.2]
theorem cCorrection_len (x : TCorrection) : (cCorrection x).length = 3 := rfl
theorem cCorrection_one (x : TCorrection) : ∀ u ∈ cCorrection x, u.oneCell' = true := by
  intro u hu
  simp only [cCorrection, List.mem_cons, List.not_mem_nil, or_false] at hu
  rcases hu with rfl | rfl | rfl <;> rfl
theorem Tryz.infoCorrection : (Tryz.prog.info? 55).map (fun i => (i.zero, i.size, i.bytes)) = some (some (.agg #[.int .i64 0, .int .i64 0, .int .i64 0]), 3, 24) := by kernel_rfl
abbrev OwnCorrection (w : World) (base : Nat) (v : Value) (L : List TCorrection) : Prop := OwnR 55 3 cCorrection w base v L
abbrev AtCorrection (w : World) (A : Option Addr) (L : List TCorrection) : Prop := RecAt 3 cCorrection w A L

set_option maxHeartbeats 400000 in
theorem eqCorrection_any (f0 f1 f2 g0 g1 g2 : Int) (w : World) : Calls Tryz.prog 98 #[.agg #[.int .i64 f0, .int .i64 f1, .int .i64 f2], .agg #[.int .i64 g0, .int .i64 g1, .int .i64 g2]] w fun e w' => e = .returned (.bool (decide (((f0, f1, f2) : TCorrection) = (g0, g1, g2)))) ∧ Same w w' := by
  by_cases h0 : f0 = g0
  · subst h0
    have b0 : (f0 != f0) = false := by simp
    by_cases h1 : f1 = g1
    · subst h1
      have b1 : (f1 != f1) = false := by simp
      by_cases h2 : f2 = g2
      · subst h2
        have b2 : (f2 != f2) = false := by simp
        go_enter Tryz.func98, Tryz.ntmps98
        go_wp2
        go_ret
        exact ⟨rfl, ((Same.refl w).alloc _).alloc _⟩
      · have b2 : (f2 != g2) = true := by simp [h2]
        have HN := Lib.hid h2
        clear h2
        go_enter Tryz.func98, Tryz.ntmps98
        go_wp2
        go_ret
        exact ⟨ret_bool (Eq.symm (decide_eq_false (fun e => HN.out (by simpa using congrArg (fun x : TCorrection => x.2.2) e)))), ((Same.refl w).alloc _).alloc _⟩
    · have b1 : (f1 != g1) = true := by simp [h1]
      have HN := Lib.hid h1
      clear h1
      go_enter Tryz.func98, Tryz.ntmps98
      go_wp2
      go_ret
      exact ⟨ret_bool (Eq.symm (decide_eq_false (fun e => HN.out (by simpa using congrArg (fun x : TCorrection => x.2.1) e)))), ((Same.refl w).alloc _).alloc _⟩
  · have b0 : (f0 != g0) = true := by simp [h0]
    have HN := Lib.hid h0
    clear h0
    go_enter Tryz.func98, Tryz.ntmps98
    go_wp2
    go_ret
    exact ⟨ret_bool (Eq.symm (decide_eq_false (fun e => HN.out (by simpa using congrArg (fun x : TCorrection => x.1) e)))), ((Same.refl w).alloc _).alloc _⟩

set_option maxRecDepth 10000 in
set_option maxHeartbeats 1000000 in
theorem eqCorrectionS_any (A B : Option Addr) (c d : Nat) (xs ys : List TCorrection) (w : World) (hx : xs.length ≤ 9223372036854775807) (hy : ys.length ≤ 9223372036854775807) (hA : AtCorrection w A xs) (hB : AtCorrection w B ys) :
    Calls Tryz.prog 41 #[.slice A xs.length c, .slice B ys.length d] w fun e w' => e = .returned (.bool (decide (xs = ys))) ∧ Same w w' := by
  by_cases hl : xs.length = ys.length
  · have hne : ((xs.length : Int) != (ys.length : Int)) = false := by rw [hl]; simp
    have HL := Lib.hid hl
    clear hl
    go_enter Tryz.func41, Tryz.ntmps41
    go_wp2
    go_loopw [5] (fun i wr => ∃ k : Nat, k ≤ xs.length ∧ i = .int .i64 k ∧ Hid (xs.take k = ys.take k) ∧ Same w wr) (fun i _ => xs.length - (intOf i).toNat)
    case atStart => exact ⟨0, Nat.zero_le _, rfl, rfl, Same.refl _⟩
    case round =>
      obtain ⟨k, hk, rfl, hall, hd⟩ := hrel
      by_cases hlt : k < xs.length
      · obtain ⟨b, off, x, rfl, hc, HX, _⟩ := (hA.same hd).at_ hlt
        have hlt' : k < ys.length := by have := HL.out; omega
        obtain ⟨b', off', y, rfl, hc', HY, _⟩ := (hB.same hd).at_ hlt'
        clear hA hB
        obtain ⟨f0, f1, f2⟩ := x
        obtain ⟨g0, g1, g2⟩ := y
        have c0 := hc 0 _ rfl
        have c1 := hc 1 _ rfl
        have c2 := hc 2 _ rfl
        simp only [Nat.add_zero] at c0
        clear hc
        have e0 := hc' 0 _ rfl
        have e1 := hc' 1 _ rfl
        have e2 := hc' 2 _ rfl
        simp only [Nat.add_zero] at e0
        clear hc'
        go_wp2
        go_still_tail 8, (by kernel_rfl)
        change wpList _ _ _ _ _ wr.drew
        have hdr : Same w wr.drew := hd.drew
        generalize wr.drew = w2 at *
        go_wp2_with fail
        refine (eqCorrection_any f0 f1 f2 g0 g1 g2 _).mono ?_
        rintro e w3 ⟨rfl, hs3⟩
        have hss := hdr.trans hs3
        clear c0 e0 c1 e1 c2 e2 hs3 hdr hd
        by_cases hxy : ((f0, f1, f2) : TCorrection) = (g0, g1, g2)
        · rw [decide_eq_true hxy]
          have HXY := Lib.hid hxy
          clear hxy
          go_wp2
          go_roundw
          case rel => exact ⟨k + 1, hlt, by go_num, take_eq_succ hall.out HX.out (by rw [HXY.out]; exact HY.out), hss⟩
          case measure => simp [intOf]; omega
        · rw [decide_eq_false hxy]
          have HN := Lib.hid hxy
          clear hxy
          go_wp2
          go_ret
          refine ⟨ret_bool (Eq.symm (decide_eq_false (fun e => HN.out ?_))), hss⟩
          subst e
          exact Option.some.inj (HX.out.symm.trans HY.out)
      · go_wp2
        go_ret
        refine ⟨ret_bool (Eq.symm (decide_eq_true ?_)), hd⟩
        have h1 := hall.out
        have h2 := HL.out
        rw [show k = xs.length by omega, List.take_length, h2, List.take_length] at h1
        exact h1
  · have hne : ((xs.length : Int) != (ys.length : Int)) = true := by simp; omega
    have HL := Lib.hid hl
    clear hl
    go_enter Tryz.func41, Tryz.ntmps41
    go_wp2
    go_ret
    exact ⟨ret_bool (Eq.symm (decide_eq_false (fun e => HL.out (by rw [e])))), Same.refl _⟩

def markCorrection (k0 : Int) (m : Nat) : List TCorrection := (List.range m).map fun j : Nat => (k0 + 3 * (j : Int), k0 + 3 * (j : Int) + 1, k0 + 3 * (j : Int) + 1 + 1)
theorem markCorrection_at {k0 : Int} {m j : Nat} (h : j < m) : (markCorrection k0 m)[j]? = some (k0 + 3 * (j : Int), k0 + 3 * (j : Int) + 1, k0 + 3 * (j : Int) + 1 + 1) := by simp [markCorrection, h]
theorem markCorrection_length (k0 : Int) (m : Nat) : (markCorrection k0 m).length = m := by simp [markCorrection]

set_option maxHeartbeats 1000000 in
theorem markCorrectionS_any (A : Option Addr) (n c : Nat) (L : List TCorrection) (k0 : Int) (w : World) (base : Nat) (hl : L.length = n) (hz : L.length ≤ 2000000) (h0 : 0 ≤ k0) (h1 : k0 ≤ 1000000000) (hA : OwnCorrection w base (.slice A n c) L) {lo hi : Nat} (hzn : Zn (.slice A n c) lo hi) :
    Calls Tryz.prog 42 #[.slice A n c, .int .i64 k0] w fun e w' => e = .returned (.int .i64 (k0 + 3 * (n : Int))) ∧ OwnCorrection w' base (.slice A n c) (markCorrection k0 n) ∧ Upd lo hi w w' := by
  subst hl
  go_enter Tryz.func42, Tryz.ntmps42
  go_wp2
  go_loopw [1, 5] (fun q i wr => ∃ k : Nat, k ≤ L.length ∧ i = .int .i64 k ∧ q = .int .i64 (k0 + 3 * (k : Int)) ∧ OwnCorrection wr base (.slice A L.length c) (mix (markCorrection k0 L.length) L k) ∧ Upd lo hi w wr) (fun _ i _ => L.length - (intOf i).toNat)
  case atStart => exact ⟨0, Nat.zero_le _, rfl, by simp, by rw [mix_zero]; exact hA, (Same.refl w).upd _ _⟩
  case round =>
    obtain ⟨k, hk, rfl, rfl, hown, hu⟩ := hrel
    by_cases hlt : k < L.length
    · obtain ⟨u, hu'⟩ : ∃ u, (mix (markCorrection k0 L.length) L k)[k]? = some u := ⟨_, List.getElem?_eq_getElem (by rw [mix_length (by simp [markCorrection]) (by simp [markCorrection]; omega)]; simpa [markCorrection] using hlt)⟩
      obtain ⟨u0_, u1_, u2_⟩ := u
      obtain ⟨g, rfl, hb, hgs, hd, hf⟩ := OwnR.at_ cCorrection_len hown hu'
      have hst := hown.set cCorrection_len (k := k) (by rw [mix_length (by simp [markCorrection]) (by simp [markCorrection]; omega)]; simpa [markCorrection] using hlt) (k0 + 3 * (k : Int), k0 + 3 * (k : Int) + 1, k0 + 3 * (k : Int) + 1 + 1)
      clear hA hu' hown
      have hzg := hzn g rfl
      have d0 := hd 0 _ rfl
      have d1 := hd 1 _ rfl
      have d2 := hd 2 _ rfl
      simp only [Nat.add_zero] at d0
      clear hd
      have hf0 := hf (k * 3)
      have hf1 := hf (k * 3 + 1)
      have hf2 := hf (k * 3 + 2)
      clear hf
      go_wp2
      go_roundw
      case rel =>
        refine ⟨k + 1, hlt, by go_num, by go_num, ?_, hu.grown hst.out.2 hzg.1 hzg.2⟩
        have := hst.out.1
        rw [mix_set (markCorrection_at hlt) (by simp [markCorrection])] at this
        exact this
      case measure => simp [intOf]; omega
    · go_wp2
      go_ret
      refine ⟨ret_int (by omega), ?_, hu⟩
      rwa [mix_full _ _ (by simp [markCorrection]; omega) (by simp [markCorrection])] at hown

set_option maxHeartbeats 1000000 in
theorem heldCorrectionS_any (A : Option Addr) (n c : Nat) (k0 : Int) (w : World) (hz : n ≤ 2000000) (h0 : 0 ≤ k0) (h1 : k0 ≤ 1000000000) (hA : AtCorrection w A (markCorrection k0 n)) :
    Calls Tryz.prog 43 #[.slice A n c, .int .i64 k0] w fun e w' => e = .returned (.int .i64 (k0 + 3 * (n : Int))) ∧ Same w w' := by
  go_enter Tryz.func43, Tryz.ntmps43
  go_wp2
  go_loopw [1, 5] (fun q i wr => ∃ k : Nat, k ≤ n ∧ i = .int .i64 k ∧ q = .int .i64 (k0 + 3 * (k : Int)) ∧ Same w wr) (fun _ i _ => n - (intOf i).toNat)
  case atStart => exact ⟨0, Nat.zero_le _, rfl, by simp, Same.refl _⟩
  case round =>
    obtain ⟨k, hk, rfl, rfl, hs⟩ := hrel
    by_cases hlt : k < n
    · obtain ⟨b, off, x, rfl, hc, HX, _⟩ := (hA.same hs).at_ (k := k) (by rw [markCorrection_length]; exact hlt)
      obtain rfl : x = (k0 + 3 * (k : Int), k0 + 3 * (k : Int) + 1, k0 + 3 * (k : Int) + 1 + 1) := Option.some.inj (HX.out.symm.trans (markCorrection_at (k0 := k0) hlt))
      clear hA HX
      have c0 := hc 0 _ rfl
      have c1 := hc 1 _ rfl
      have c2 := hc 2 _ rfl
      simp only [Nat.add_zero] at c0
      clear hc
      have hb0 : ((k0 + 3 * (k : Int)) != (k0 + 3 * (k : Int))) = false := by simp
      have hb1 : ((k0 + 3 * (k : Int) + 1) != (k0 + 3 * (k : Int) + 1)) = false := by simp
      have hb2 : ((k0 + 3 * (k : Int) + 1 + 1) != (k0 + 3 * (k : Int) + 1 + 1)) = false := by simp
      go_wp2
      go_roundw
      case rel => exact ⟨k + 1, hlt, by go_num, by go_num, hs⟩
      case measure => simp [intOf]; omega
    · go_wp2
      go_ret
      exact ⟨ret_int (by omega), hs⟩

theorem wp_allCorrection (w : World) {o : Oper} {a : Act} {K : Act → World → Prop} {Q : Exit → Act → World → Prop} (s x : Operand)
    (ho : o.op = .call { callee := .builtin .append, args := #[s, x], argTypes := #[52, 52] })
    (base : Nat) (v : Value) (L : List TCorrection) (hs : a.eval s = v) (hown : OwnCorrection w base v L) (A : Option Addr) (c : Nat) (M : List TCorrection) (hx : a.eval x = .slice A M.length c) (hM : AtCorrection w A M) (hA : A = none → c = 0)
    (hn : L.length + M.length ≤ 1000000000) (hbase : base ≤ w.heap.size)
    (h : ∀ v' w', OwnCorrection w' base v' (L ++ M) → w.grownBy w' v.ownBlock → From w v v' → K (a.put o.dst v') w') : o.wp Tryz.prog a w K Q :=
  wp_fineR w s x 52 ho (.agg #[.int .i64 0, .int .i64 0, .int .i64 0]) 24 Tryz.underlying52 Tryz.infoCorrection rfl (by decide) cCorrection_len cCorrection_one base v L hs hown A c M hx hM hA hn (by decide) hbase h
theorem step_allCorrection (w : World) {ops : Array Oper} {o : Oper} {a : Act} {K : Act → World → Prop} {Q : Exit → Act → World → Prop} {E : Prop} (hg : o.guard = none) (s x : Operand)
    (ho : o.op = .call { callee := .builtin .append, args := #[s, x], argTypes := #[52, 52] })
    (base : Nat) (v : Value) (L : List TCorrection) (hs : a.eval s = v) (hown : OwnCorrection w base v L) (A : Option Addr) (c : Nat) (M : List TCorrection) (hx : a.eval x = .slice A M.length c) (hM : AtCorrection w A M) (hA : A = none → c = 0)
    (hn : L.length + M.length ≤ 1000000000) (hbase : base ≤ w.heap.size)
    (h : ∀ v' w', OwnCorrection w' base v' (L ++ M) → w.grownBy w' v.ownBlock → From w v v' → K (a.put o.dst v') w') :
    if Region.wanted o (yielded ops a.tmps) = true then Oper.wp Tryz.prog o a w K Q else E :=
  step_of hg (wp_allCorrection w s x ho base v L hs hown A c M hx hM hA hn hbase h)
/-- append of one record out of a new block. -/
theorem wp_oneCorrection (w : World) {o : Oper} {a : Act} {K : Act → World → Prop} {Q : Exit → Act → World → Prop} (s x : Operand)
    (ho : o.op = .call { callee := .builtin .append, args := #[s, x], argTypes := #[52, 52] })
    (base : Nat) (v : Value) (L : List TCorrection) (hs : a.eval s = v) (hown : OwnCorrection w base v L) (b c : Nat) (y : TCorrection) (hx : a.eval x = .slice (some ⟨b, 0, none⟩) 1 c) (hc : ∀ j u, (cCorrection y)[j]? = some u → w.cell? ⟨b, j, none⟩ = some u)
    (hn : L.length ≤ 1000000000 - 1) (hb : b < w.heap.size) (hbase : base ≤ w.heap.size)
    (h : ∀ v' w', OwnCorrection w' base v' (L ++ [y]) → w.grownBy w' v.ownBlock → From w v v' → K (a.put o.dst v') w') : o.wp Tryz.prog a w K Q := by
  refine wp_allCorrection w s x ho base v L hs hown (some ⟨b, 0, none⟩) c [y] hx (.inr ⟨b, 0, rfl, hb, fun k z hk j u hu => ?_⟩) (by simp) (by simp; omega) hbase h
  match k, hk with
  | 0, hk => simp at hk; subst hk; simpa using hc j u hu
theorem step_oneCorrection (w : World) {ops : Array Oper} {o : Oper} {a : Act} {K : Act → World → Prop} {Q : Exit → Act → World → Prop} {E : Prop} (hg : o.guard = none) (s x : Operand)
    (ho : o.op = .call { callee := .builtin .append, args := #[s, x], argTypes := #[52, 52] })
    (base : Nat) (v : Value) (L : List TCorrection) (hs : a.eval s = v) (hown : OwnCorrection w base v L) (b c : Nat) (y : TCorrection) (hx : a.eval x = .slice (some ⟨b, 0, none⟩) 1 c) (hc : ∀ j u, (cCorrection y)[j]? = some u → w.cell? ⟨b, j, none⟩ = some u)
    (hn : L.length ≤ 1000000000 - 1) (hb : b < w.heap.size) (hbase : base ≤ w.heap.size)
    (h : ∀ v' w', OwnCorrection w' base v' (L ++ [y]) → w.grownBy w' v.ownBlock → From w v v' → K (a.put o.dst v') w') :
    if Region.wanted o (yielded ops a.tmps) = true then Oper.wp Tryz.prog o a w K Q else E :=
  step_of hg (wp_oneCorrection w s x ho base v L hs hown b c y hx hc hn hb hbase h)
end Go.Proofs.YtjfmknhnplefnaaGreat
end

section
/-
  Lists of corrections, either side.
-/
namespace Go.Proofs.YtjfmknhnplefnaaGreat
open Go.RowKit
set_option linter.unusedVariables false
set_option linter.unusedSimpArgs false

theorem ents_in {D : TCase} {f t known : Int} {k : Nat} (h : k < (ents D f t known).length) : 0 ≤ f ∧ f ≤ 3600 ∧ (ents D f t known).length ≤ 240 := by
  have hs := ents_short D f t known
  rw [ents_length] at h
  split at h
  · rename_i ho
    have := entsOk_len ho
    omega
  · omega

set_option maxRecDepth 100000 in
set_option maxHeartbeats 8000000 in
theorem sCorrs_any (D : TCase) (m : CMem) (f t a b : Int) (w : World) (hD : D.Small 1048576) (hcap : D.R.length ≤ m.rc) (hA : CaseAt w D m) :
    Calls Tryz.prog 40 #[.agg #[.slice m.r D.R.length m.rc, .slice m.f D.F.length m.fc, .slice m.p D.P.length m.pc, .int .i64 D.birth, .int .i64 D.joined, .slice m.s D.S.length m.sc, .slice m.e D.E.length m.ec], .int .i64 f, .int .i64 t, .int .i64 a, .int .i64 b] w (RetR 55 3 cCorrection w (corrs D f t a b)) := by
  have HR := Lib.hid (fun (k : Nat) => ents_in (D := D) (f := f) (t := t) (known := a) (k := k))
  have HL := Lib.hid (ents_alike D f t a b)
  have HC := Lib.hid (show corrs D f t a b = corrTo f (ents D f t a) (ents D f t b) (ents D f t a).length from rfl)
  have H0 := Lib.hid (ents_short D f t a)
  go_enter Tryz.func40, Tryz.ntmps40
  go_wp2_with fail
  have hem := OwnR.empty 55 3 cCorrection (w.alloc (.cells #[.slice m.r D.R.length m.rc, .slice m.f D.F.length m.fc, .slice m.p D.P.length m.pc, .int .i64 D.birth, .int .i64 D.joined, .slice m.s D.S.length m.sc, .slice m.e D.E.length m.ec] 38)) (Nat.le_refl _)
  simp only [World.size_alloc] at hem
  have h1 : BoxAt ((w.alloc (.cells #[.slice m.r D.R.length m.rc, .slice m.f D.F.length m.fc, .slice m.p D.P.length m.pc, .int .i64 D.birth, .int .i64 D.joined, .slice m.s D.S.length m.sc, .slice m.e D.E.length m.ec] 38)).alloc (.cells #[] 55)) (w.heap.size) 38 [.slice m.r D.R.length m.rc, .slice m.f D.F.length m.fc, .slice m.p D.P.length m.pc, .int .i64 D.birth, .int .i64 D.joined, .slice m.s D.S.length m.sc, .slice m.e D.E.length m.ec] := by simpa using (BoxAt.alloc (BoxAt.new w 38 [.slice m.r D.R.length m.rc, .slice m.f D.F.length m.fc, .slice m.p D.P.length m.pc, .int .i64 D.birth, .int .i64 D.joined, .slice m.s D.S.length m.sc, .slice m.e D.E.length m.ec]) (.cells #[] 55))
  have S0 := (Same.alloc (Same.alloc (Same.refl w) (.cells #[.slice m.r D.R.length m.rc, .slice m.f D.F.length m.fc, .slice m.p D.P.length m.pc, .int .i64 D.birth, .int .i64 D.joined, .slice m.s D.S.length m.sc, .slice m.e D.E.length m.ec] 38)) (.cells #[] 55))
  generalize ((w.alloc (.cells #[.slice m.r D.R.length m.rc, .slice m.f D.F.length m.fc, .slice m.p D.P.length m.pc, .int .i64 D.birth, .int .i64 D.joined, .slice m.s D.S.length m.sc, .slice m.e D.E.length m.ec] 38)).alloc (.cells #[] 55)) = w0 at *
  refine (sEnts_any D m f t a _ hD hcap (hA.same S0)).mono ?_
  rintro en w1 ⟨A1, c1, rfl, o1, hs1⟩
  have S1 := S0.trans hs1
  replace h1 := h1.same hs1
  have q1 := Sep.new hem o1 (Nat.le_refl _)
  replace hem := OwnR.same hem hs1
  clear hs1 S0
  have a0 := h1.cell 0 rfl
  have a1 := h1.cell 1 rfl
  have a2 := h1.cell 2 rfl
  have a3 := h1.cell 3 rfl
  have a4 := h1.cell 4 rfl
  have a5 := h1.cell 5 rfl
  have a6 := h1.cell 6 rfl
  have aL := h1.lt
  go_wp2_with fail
  clear a0 a1 a2 a3 a4 a5 a6 aL
  refine (sEnts_any D m f t b _ hD hcap (hA.same S1)).mono ?_
  rintro en w2 ⟨A2, c2, rfl, o2, hs2⟩
  have S2 := S1.trans hs2
  have q2 := Sep.new hem o2 (Nat.le_refl _)
  replace hem := OwnR.same hem hs2
  replace o1 := OwnI.same o1 hs2
  clear hs2 S1 h1 hA
  obtain ⟨X, hX⟩ : ∃ X, X = ents D f t a := ⟨_, rfl⟩
  obtain ⟨Y, hY⟩ : ∃ Y, Y = ents D f t b := ⟨_, rfl⟩
  rw [← hX] at HR HL HC H0 ⊢
  rw [← hY] at HL HC ⊢
  rw [← hX] at o1 q1
  rw [← hY] at o2 q2
  clear hX hY
  go_wp2
  go_loopw [11, 14] (fun v i wr => ∃ k : Nat, k ≤ X.length ∧ i = .int .i64 k ∧ OwnCorrection wr (w.heap.size + 1) v (corrTo f X Y k) ∧ Sep v (.slice A1 X.length c1) ∧ Sep v (.slice A2 Y.length c2) ∧ OwnI wr w0.heap.size (.slice A1 X.length c1) X ∧ OwnI wr w1.heap.size (.slice A2 Y.length c2) Y ∧ Same w wr) (fun _ i _ => X.length - (intOf i).toNat)
  case atStart => exact ⟨0, Nat.zero_le _, rfl, hem, q1, q2, o1, o2, S2⟩
  case round =>
    clear hem q1 q2 o1 o2 S2
    obtain ⟨k, hk, rfl, hown, q1, q2, o1, o2, hs⟩ := hrel
    have n0 := hs.size
    by_cases hlt : k < X.length
    · obtain ⟨x, hx⟩ : ∃ x, X[k]? = some x := ⟨_, List.getElem?_eq_getElem hlt⟩
      obtain ⟨y, hy⟩ : ∃ y, Y[k]? = some y := ⟨_, List.getElem?_eq_getElem (by have := HL.out; omega)⟩
      obtain ⟨g1, rfl, b1, l1, cx, _, _⟩ := OwnI.at_ o1 hx
      obtain ⟨g2, rfl, b2, l2, cy, _, _⟩ := OwnI.at_ o2 hy
      have hf := HR.out k hlt
      have HX := Lib.hid hx
      have HY := Lib.hid hy
      clear hx hy
      have p0 : (0 : Int) ≤ (k : Int) := by omega
      have p1 : (k : Int) < (X.length : Int) := by omega
      have p2 : (k : Int) < (Y.length : Int) := by have := HL.out; omega
      by_cases hxy : x = y
      · have HS := Lib.hid (corrTo_eq (f := f) HX.out (by rw [hxy]; exact HY.out))
        subst hxy
        rw [← HS.out] at hown
        go_wp2
        go_region
        have hd := (Same.refl wr).drew
        replace cx := (hd.cell (p := ⟨g1, k, none⟩) l1).trans cx
        replace cy := (hd.cell (p := ⟨g2, k, none⟩) l2).trans cy
        replace hown := OwnR.same hown hd
        replace o1 := OwnI.same o1 hd
        replace o2 := OwnI.same o2 hd
        replace l1 : g1 < wr.drew.heap.size := l1
        replace l2 : g2 < wr.drew.heap.size := l2
        replace hs := hs.trans hd
        replace n0 := hs.size
        clear hd
        generalize wr.drew = wr at *
        go_wp2
        go_roundw
        case rel => exact ⟨k + 1, hlt, by go_num, hown, q1, q2, o1, o2, hs⟩
        case measure => simp [intOf]; omega
      · have HS := Lib.hid (corrTo_ne (f := f) HX.out HY.out hxy)
        have hml := corrTo_length f X Y k
        obtain ⟨M, hM⟩ : ∃ M, M = corrTo f X Y k := ⟨_, rfl⟩
        rw [← hM] at hown HS hml
        clear hM
        go_wp2
        go_region
        have hd := (Same.refl wr).drew
        replace cx := (hd.cell (p := ⟨g1, k, none⟩) l1).trans cx
        replace cy := (hd.cell (p := ⟨g2, k, none⟩) l2).trans cy
        replace hown := OwnR.same hown hd
        replace o1 := OwnI.same o1 hd
        replace o2 := OwnI.same o2 hd
        replace l1 : g1 < wr.drew.heap.size := l1
        replace l2 : g2 < wr.drew.heap.size := l2
        replace hs := hs.trans hd
        replace n0 := hs.size
        clear hd
        generalize wr.drew = wr at *
        have kw : IntKind.i64.wrap (f + (k : Int)) = f + (k : Int) := IntWalk.i64_in _ (by omega)
        have hal0 := (Same.refl wr).alloc (.cells #[.int .i64 (f + (k : Int)), .int .i64 x, .int .i64 y] 55)
        have hown1 := OwnR.same hown hal0.drew
        go_wp2
        go_region_law ((refine step_oneCorrection _ (by rfl) (.tmp 47) (.tmp 60) (by rfl) (w.heap.size + 1) _ M (by rfl) hown1 wr.heap.size 1 (f + (k : Int), x, y) (by rfl) (by intro j u hu; exact cells_new rfl j u hu) (by omega) (by simp) (by simp; omega) ?_; intro v' w3 ho3 hup hfr))
        all_goals
          have hal := hal0.drew
          have e1 := grown_owns hup (OwnI.same o1 hal) q1
          have e2 := grown_owns hup (OwnI.same o2 hal) q2
          have r1 := Sep.from_ q1 hfr (OwnI.same o1 hal)
          have r2 := Sep.from_ q2 hfr (OwnI.same o2 hal)
          have S3 := grown_same (hs.trans hal) hup (fun g hg => by have := (owns_new (OwnR.same hown hal) g hg).1; omega)
          rw [← HS.out] at ho3
          clear hup hfr hown q1 q2 o1 o2 hs hal HS
          first
            | exact ⟨⟨k + 1, hlt, by go_num, ho3, r1, r2, e1, e2, S3⟩, by simp [intOf]; omega⟩
            | (go_wp2; exact ⟨⟨k + 1, hlt, by go_num, ho3, r1, r2, e1, e2, S3⟩, by simp [intOf]; omega⟩)
            | (go_wp2; go_roundw; (case rel => exact ⟨k + 1, hlt, by go_num, ho3, r1, r2, e1, e2, S3⟩); (case measure => simp [intOf]; omega))
    · have hk2 : k = X.length := by omega
      have hk3 : (Y.length : Int) = (k : Int) := by have := HL.out; omega
      go_wp2
      go_ret
      rw [HC.out, ← hk2]
      exact RetR.of (OwnR.rebase hown (by omega)) hs

set_option maxRecDepth 100000 in
set_option maxHeartbeats 8000000 in
theorem iCorrs_any (D : TCase) (m : CMem) (f t a b : Int) (w : World) (hD : D.Small 1048576) (hcap : D.R.length ≤ m.rc) (hA : CaseAt w D m) :
    Calls Tryz.prog 21 #[.agg #[.slice m.r D.R.length m.rc, .slice m.f D.F.length m.fc, .slice m.p D.P.length m.pc, .int .i64 D.birth, .int .i64 D.joined, .slice m.s D.S.length m.sc, .slice m.e D.E.length m.ec], .int .i64 f, .int .i64 t, .int .i64 a, .int .i64 b] w (RetR 55 3 cCorrection w (corrs D f t a b)) := by
  have HR := Lib.hid (fun (k : Nat) => ents_in (D := D) (f := f) (t := t) (known := a) (k := k))
  have HL := Lib.hid (ents_alike D f t a b)
  have HC := Lib.hid (show corrs D f t a b = corrTo f (ents D f t a) (ents D f t b) (ents D f t a).length from rfl)
  have H0 := Lib.hid (ents_short D f t a)
  go_enter Tryz.func21, Tryz.ntmps21
  go_wp2_with fail
  have hem := OwnR.empty 55 3 cCorrection (w.alloc (.cells #[.slice m.r D.R.length m.rc, .slice m.f D.F.length m.fc, .slice m.p D.P.length m.pc, .int .i64 D.birth, .int .i64 D.joined, .slice m.s D.S.length m.sc, .slice m.e D.E.length m.ec] 38)) (Nat.le_refl _)
  simp only [World.size_alloc] at hem
  have h1 : BoxAt ((w.alloc (.cells #[.slice m.r D.R.length m.rc, .slice m.f D.F.length m.fc, .slice m.p D.P.length m.pc, .int .i64 D.birth, .int .i64 D.joined, .slice m.s D.S.length m.sc, .slice m.e D.E.length m.ec] 38)).alloc (.cells #[] 55)) (w.heap.size) 38 [.slice m.r D.R.length m.rc, .slice m.f D.F.length m.fc, .slice m.p D.P.length m.pc, .int .i64 D.birth, .int .i64 D.joined, .slice m.s D.S.length m.sc, .slice m.e D.E.length m.ec] := by simpa using (BoxAt.alloc (BoxAt.new w 38 [.slice m.r D.R.length m.rc, .slice m.f D.F.length m.fc, .slice m.p D.P.length m.pc, .int .i64 D.birth, .int .i64 D.joined, .slice m.s D.S.length m.sc, .slice m.e D.E.length m.ec]) (.cells #[] 55))
  have S0 := (Same.alloc (Same.alloc (Same.refl w) (.cells #[.slice m.r D.R.length m.rc, .slice m.f D.F.length m.fc, .slice m.p D.P.length m.pc, .int .i64 D.birth, .int .i64 D.joined, .slice m.s D.S.length m.sc, .slice m.e D.E.length m.ec] 38)) (.cells #[] 55))
  generalize ((w.alloc (.cells #[.slice m.r D.R.length m.rc, .slice m.f D.F.length m.fc, .slice m.p D.P.length m.pc, .int .i64 D.birth, .int .i64 D.joined, .slice m.s D.S.length m.sc, .slice m.e D.E.length m.ec] 38)).alloc (.cells #[] 55)) = w0 at *
  refine (iEnts_any D m f t b _ hD hcap (hA.same S0)).mono ?_
  rintro en w1 ⟨A1, c1, rfl, o1, hs1⟩
  have S1 := S0.trans hs1
  replace h1 := h1.same hs1
  have q1 := Sep.new hem o1 (Nat.le_refl _)
  replace hem := OwnR.same hem hs1
  clear hs1 S0
  have a0 := h1.cell 0 rfl
  have a1 := h1.cell 1 rfl
  have a2 := h1.cell 2 rfl
  have a3 := h1.cell 3 rfl
  have a4 := h1.cell 4 rfl
  have a5 := h1.cell 5 rfl
  have a6 := h1.cell 6 rfl
  have aL := h1.lt
  go_wp2_with fail
  clear a0 a1 a2 a3 a4 a5 a6 aL
  refine (iEnts_any D m f t a _ hD hcap (hA.same S1)).mono ?_
  rintro en w2 ⟨A2, c2, rfl, o2, hs2⟩
  have S2 := S1.trans hs2
  have q2 := Sep.new hem o2 (Nat.le_refl _)
  replace hem := OwnR.same hem hs2
  replace o1 := OwnI.same o1 hs2
  clear hs2 S1 h1 hA
  obtain ⟨X, hX⟩ : ∃ X, X = ents D f t a := ⟨_, rfl⟩
  obtain ⟨Y, hY⟩ : ∃ Y, Y = ents D f t b := ⟨_, rfl⟩
  rw [← hX] at HR HL HC H0 ⊢
  rw [← hY] at HL HC ⊢
  rw [← hX] at o2 q2
  rw [← hY] at o1 q1
  clear hX hY
  go_wp2
  go_loopw [11, 27] (fun v i wr => ∃ k : Nat, k ≤ X.length ∧ i = .int .i64 k ∧ OwnCorrection wr (w.heap.size + 1) v (corrTo f X Y k) ∧ Sep v (.slice A2 X.length c2) ∧ Sep v (.slice A1 Y.length c1) ∧ OwnI wr w1.heap.size (.slice A2 X.length c2) X ∧ OwnI wr w0.heap.size (.slice A1 Y.length c1) Y ∧ Same w wr) (fun _ i _ => X.length - (intOf i).toNat)
  case atStart => exact ⟨0, Nat.zero_le _, rfl, hem, q2, q1, o2, o1, S2⟩
  case round =>
    clear hem q1 q2 o1 o2 S2
    obtain ⟨k, hk, rfl, hown, q1, q2, o1, o2, hs⟩ := hrel
    have n0 := hs.size
    by_cases hlt : k < X.length
    · obtain ⟨x, hx⟩ : ∃ x, X[k]? = some x := ⟨_, List.getElem?_eq_getElem hlt⟩
      obtain ⟨y, hy⟩ : ∃ y, Y[k]? = some y := ⟨_, List.getElem?_eq_getElem (by have := HL.out; omega)⟩
      obtain ⟨g1, rfl, b1, l1, cx, _, _⟩ := OwnI.at_ o1 hx
      obtain ⟨g2, rfl, b2, l2, cy, _, _⟩ := OwnI.at_ o2 hy
      have hf := HR.out k hlt
      have HX := Lib.hid hx
      have HY := Lib.hid hy
      clear hx hy
      have p0 : (0 : Int) ≤ (k : Int) := by omega
      have p1 : (k : Int) < (X.length : Int) := by omega
      have p2 : (k : Int) < (Y.length : Int) := by have := HL.out; omega
      by_cases hxy : x = y
      · have HS := Lib.hid (corrTo_eq (f := f) HX.out (by rw [hxy]; exact HY.out))
        subst hxy
        rw [← HS.out] at hown
        go_wp2
        go_roundw
        case rel => exact ⟨k + 1, hlt, by go_num, hown, q1, q2, o1, o2, hs⟩
        case measure => simp [intOf]; omega
      · have HS := Lib.hid (corrTo_ne (f := f) HX.out HY.out hxy)
        have hml := corrTo_length f X Y k
        obtain ⟨M, hM⟩ : ∃ M, M = corrTo f X Y k := ⟨_, rfl⟩
        rw [← hM] at hown HS hml
        clear hM
        go_wp2_with (at_builtin; refine wpList_of rfl fun _ hK => wp_oneCorrection _ (.tmp 38) (.tmp 48) rfl (w.heap.size + 1) _ M rfl (OwnR.alloc hown _) wr.heap.size 1 (f + (k : Int), x, y) rfl (cells_new rfl) (by omega) (by simp) (by simp; omega) (fun v' w3 ho3 hup hfr => hK _ _ ?_))
        have hal := (Same.refl wr).alloc (.cells #[.int .i64 (f + (k : Int)), .int .i64 x, .int .i64 y] 55)
        have e1 := grown_owns hup (OwnI.same o1 hal) q1
        have e2 := grown_owns hup (OwnI.same o2 hal) q2
        have r1 := Sep.from_ q1 hfr (OwnI.same o1 hal)
        have r2 := Sep.from_ q2 hfr (OwnI.same o2 hal)
        have S3 := grown_same (hs.trans hal) hup (fun g hg => by have := (owns_new (OwnR.same hown hal) g hg).1; omega)
        rw [← HS.out] at ho3
        clear hup hfr hown q1 q2 o1 o2 hs hal HS
        go_wp2
        go_roundw
        case rel => exact ⟨k + 1, hlt, by go_num, ho3, r1, r2, e1, e2, S3⟩
        case measure => simp [intOf]; omega
    · have hk2 : k = X.length := by omega
      have hk3 : (Y.length : Int) = (k : Int) := by have := HL.out; omega
      go_wp2
      go_ret
      rw [HC.out, ← hk2]
      exact RetR.of (OwnR.rebase hown (by omega)) hs
end Go.Proofs.YtjfmknhnplefnaaGreat
end

section
/-
  FirstCorrection, either side, and the law of it.
-/
namespace Go.Proofs.YtjfmknhnplefnaaGreat
open Go.RowKit
set_option linter.unusedVariables false
set_option linter.unusedSimpArgs false

set_option maxRecDepth 100000 in
set_option maxHeartbeats 4000000 in
theorem sFirst_any (D : TCase) (m : CMem) (f t a b : Int) (w : World) (hD : D.Small 1048576) (hcap : D.R.length ≤ m.rc) (hA : CaseAt w D m) :
    Calls Tryz.prog 35 #[.agg #[.slice m.r D.R.length m.rc, .slice m.f D.F.length m.fc, .slice m.p D.P.length m.pc, .int .i64 D.birth, .int .i64 D.joined, .slice m.s D.S.length m.sc, .slice m.e D.E.length m.ec], .int .i64 f, .int .i64 t, .int .i64 a, .int .i64 b] w fun e w' => e = .returned (.int .i64 (firstOf (corrs D f t a b))) ∧ Same w w' := by
  have H0 := Lib.hid (corrs_short D f t a b)
  go_enter Tryz.func35, Tryz.ntmps35
  go_wp2_with fail
  have h1 : BoxAt (w.alloc (.cells #[.slice m.r D.R.length m.rc, .slice m.f D.F.length m.fc, .slice m.p D.P.length m.pc, .int .i64 D.birth, .int .i64 D.joined, .slice m.s D.S.length m.sc, .slice m.e D.E.length m.ec] 38)) (w.heap.size) 38 [.slice m.r D.R.length m.rc, .slice m.f D.F.length m.fc, .slice m.p D.P.length m.pc, .int .i64 D.birth, .int .i64 D.joined, .slice m.s D.S.length m.sc, .slice m.e D.E.length m.ec] := by simpa using (BoxAt.new w 38 [.slice m.r D.R.length m.rc, .slice m.f D.F.length m.fc, .slice m.p D.P.length m.pc, .int .i64 D.birth, .int .i64 D.joined, .slice m.s D.S.length m.sc, .slice m.e D.E.length m.ec])
  have S0 := (Same.alloc (Same.refl w) (.cells #[.slice m.r D.R.length m.rc, .slice m.f D.F.length m.fc, .slice m.p D.P.length m.pc, .int .i64 D.birth, .int .i64 D.joined, .slice m.s D.S.length m.sc, .slice m.e D.E.length m.ec] 38))
  generalize (w.alloc (.cells #[.slice m.r D.R.length m.rc, .slice m.f D.F.length m.fc, .slice m.p D.P.length m.pc, .int .i64 D.birth, .int .i64 D.joined, .slice m.s D.S.length m.sc, .slice m.e D.E.length m.ec] 38)) = w0 at *
  refine (sCorrs_any D m f t a b _ hD hcap (hA.same S0)).mono ?_
  rintro en w1 ⟨A, c, rfl, o1, hs1⟩
  have S1 := S0.trans hs1
  clear hs1 S0 h1
  obtain ⟨L, hL⟩ : ∃ L, L = corrs D f t a b := ⟨_, rfl⟩
  rw [← hL] at H0 o1 ⊢
  have HLL := Lib.hid hL
  clear hL
  have hl := H0.out
  rcases L with _ | ⟨x, L⟩
  · go_wp2
    go_ret
    exact ⟨by rw [← HLL.out]; rfl, S1⟩
  · obtain ⟨g1, rfl, b1, l1, cx, _⟩ := OwnR.at_ cCorrection_len o1 (k := 0) (x := x) rfl
    obtain ⟨f0, f1, f2⟩ := x
    have c0 := cx 0 _ rfl
    simp only [Nat.zero_mul, Nat.add_zero] at c0
    have p1 : (0 : Int) < ((((f0, f1, f2) :: L).length : Nat) : Int) := by rw [List.length_cons]; omega
    have p2 : ((((((f0, f1, f2) :: L).length : Nat) : Int)) == 0) = false := by rw [List.length_cons, beq_eq_false_iff_ne]; omega
    clear cx o1
    go_wp2
    go_ret
    exact ⟨by rw [← HLL.out]; rfl, S1⟩

set_option maxRecDepth 100000 in
set_option maxHeartbeats 4000000 in
theorem iFirst_any (D : TCase) (m : CMem) (f t a b : Int) (w : World) (hD : D.Small 1048576) (hcap : D.R.length ≤ m.rc) (hA : CaseAt w D m) :
    Calls Tryz.prog 22 #[.agg #[.slice m.r D.R.length m.rc, .slice m.f D.F.length m.fc, .slice m.p D.P.length m.pc, .int .i64 D.birth, .int .i64 D.joined, .slice m.s D.S.length m.sc, .slice m.e D.E.length m.ec], .int .i64 f, .int .i64 t, .int .i64 a, .int .i64 b] w fun e w' => e = .returned (.int .i64 (firstOf (corrs D f t a b))) ∧ Same w w' := by
  have H0 := Lib.hid (corrs_short D f t a b)
  go_enter Tryz.func22, Tryz.ntmps22
  go_wp2_with fail
  have h1 : BoxAt (w.alloc (.cells #[.slice m.r D.R.length m.rc, .slice m.f D.F.length m.fc, .slice m.p D.P.length m.pc, .int .i64 D.birth, .int .i64 D.joined, .slice m.s D.S.length m.sc, .slice m.e D.E.length m.ec] 38)) (w.heap.size) 38 [.slice m.r D.R.length m.rc, .slice m.f D.F.length m.fc, .slice m.p D.P.length m.pc, .int .i64 D.birth, .int .i64 D.joined, .slice m.s D.S.length m.sc, .slice m.e D.E.length m.ec] := by simpa using (BoxAt.new w 38 [.slice m.r D.R.length m.rc, .slice m.f D.F.length m.fc, .slice m.p D.P.length m.pc, .int .i64 D.birth, .int .i64 D.joined, .slice m.s D.S.length m.sc, .slice m.e D.E.length m.ec])
  have S0 := (Same.alloc (Same.refl w) (.cells #[.slice m.r D.R.length m.rc, .slice m.f D.F.length m.fc, .slice m.p D.P.length m.pc, .int .i64 D.birth, .int .i64 D.joined, .slice m.s D.S.length m.sc, .slice m.e D.E.length m.ec] 38))
  generalize (w.alloc (.cells #[.slice m.r D.R.length m.rc, .slice m.f D.F.length m.fc, .slice m.p D.P.length m.pc, .int .i64 D.birth, .int .i64 D.joined, .slice m.s D.S.length m.sc, .slice m.e D.E.length m.ec] 38)) = w0 at *
  refine (iCorrs_any D m f t a b _ hD hcap (hA.same S0)).mono ?_
  rintro en w1 ⟨A, c, rfl, o1, hs1⟩
  have S1 := S0.trans hs1
  clear hs1 S0 h1
  obtain ⟨L, hL⟩ : ∃ L, L = corrs D f t a b := ⟨_, rfl⟩
  rw [← hL] at H0 o1 ⊢
  have HLL := Lib.hid hL
  clear hL
  have hl := H0.out
  rcases L with _ | ⟨x, L⟩
  · go_wp2
    go_ret
    exact ⟨by rw [← HLL.out]; rfl, S1⟩
  · obtain ⟨g1, rfl, b1, l1, cx, _⟩ := OwnR.at_ cCorrection_len o1 (k := 0) (x := x) rfl
    obtain ⟨f0, f1, f2⟩ := x
    have c0 := cx 0 _ rfl
    simp only [Nat.zero_mul, Nat.add_zero] at c0
    have p1 : (0 : Int) < ((((f0, f1, f2) :: L).length : Nat) : Int) := by rw [List.length_cons]; omega
    have p2 : ((((((f0, f1, f2) :: L).length : Nat) : Int)) == 0) = false := by rw [List.length_cons, beq_eq_false_iff_ne]; omega
    clear cx o1
    go_wp2
    go_ret
    exact ⟨by rw [← HLL.out]; rfl, S1⟩

set_option maxRecDepth 10000 in
set_option maxHeartbeats 4000000 in
theorem lawFirst (D : TCase) (m : CMem) (x : Int) (y : Int) (z : Int) (v : Int) (w : World) (hZ : D.Small 9223372036854775807) (hA : CaseAt w D m) (_ : (Lit.int .i64 x).wf = true) (_ : (Lit.int .i64 y).wf = true) (_ : (Lit.int .i64 z).wf = true) (_ : (Lit.int .i64 v).wf = true) :
    Calls Tryz.prog 7 #[.agg #[.slice m.r D.R.length m.rc, .slice m.f D.F.length m.fc, .slice m.p D.P.length m.pc, .int .i64 D.birth, .int .i64 D.joined, .slice m.s D.S.length m.sc, .slice m.e D.E.length m.ec], .int .i64 x, .int .i64 y, .int .i64 z, .int .i64 v] w fun e w' => e = .returned (.bool true) ∧ Same w w' := by
  by_cases hl : (D.sz : Int) ≤ 1048576
  · have hD : D.Small 1048576 := .of (by omega)
    have hn : ¬ 1048576 - (D.sz : Int) < 0 := by omega
    have hE := Lib.hid (show (firstOf (corrs D x y z v) != firstOf (corrs D x y z v)) = false by simp)
    go_enter Tryz.func7, Tryz.ntmps7
    go_wp2_with fail
    have h1 : BoxAt (w.alloc (.cells #[.slice m.r D.R.length m.rc, .slice m.f D.F.length m.fc, .slice m.p D.P.length m.pc, .int .i64 D.birth, .int .i64 D.joined, .slice m.s D.S.length m.sc, .slice m.e D.E.length m.ec] 73)) (w.heap.size) 73 [.slice m.r D.R.length m.rc, .slice m.f D.F.length m.fc, .slice m.p D.P.length m.pc, .int .i64 D.birth, .int .i64 D.joined, .slice m.s D.S.length m.sc, .slice m.e D.E.length m.ec] := by simpa using (BoxAt.new w 73 [.slice m.r D.R.length m.rc, .slice m.f D.F.length m.fc, .slice m.p D.P.length m.pc, .int .i64 D.birth, .int .i64 D.joined, .slice m.s D.S.length m.sc, .slice m.e D.E.length m.ec])
    have hs0 := (Same.alloc (Same.refl w) (.cells #[.slice m.r D.R.length m.rc, .slice m.f D.F.length m.fc, .slice m.p D.P.length m.pc, .int .i64 D.birth, .int .i64 D.joined, .slice m.s D.S.length m.sc, .slice m.e D.E.length m.ec] 73))
    generalize (w.alloc (.cells #[.slice m.r D.R.length m.rc, .slice m.f D.F.length m.fc, .slice m.p D.P.length m.pc, .int .i64 D.birth, .int .i64 D.joined, .slice m.s D.S.length m.sc, .slice m.e D.E.length m.ec] 73)) = w0 at *
    have hA0 := hA.same hs0
    refine (szCase_yes D m 1048576 _ hZ (by omega) (by omega) hl hA0).mono ?_
    rintro e w1 ⟨rfl, t1⟩
    have a0 := (h1.same t1).cell 0 rfl
    have a1 := (h1.same t1).cell 1 rfl
    have a2 := (h1.same t1).cell 2 rfl
    have a3 := (h1.same t1).cell 3 rfl
    have a4 := (h1.same t1).cell 4 rfl
    have a5 := (h1.same t1).cell 5 rfl
    have a6 := (h1.same t1).cell 6 rfl
    go_wp2_with fail
    clear a0 a1 a2 a3 a4 a5 a6
    refine (toCase_any D m _ hD (hA0.same t1)).mono ?_
    rintro e w2 ⟨m1, rfl, o1, t2⟩
    have T2 := t1.trans t2
    go_wp2_with fail
    refine (sFirst_any D m1 x y z v _ hD o1.rules.cap o1.at_).mono ?_
    rintro e w3 ⟨rfl, t3⟩
    have T3 := T2.trans t3
    have a0 := (h1.same T3).cell 0 rfl
    have a1 := (h1.same T3).cell 1 rfl
    have a2 := (h1.same T3).cell 2 rfl
    have a3 := (h1.same T3).cell 3 rfl
    have a4 := (h1.same T3).cell 4 rfl
    have a5 := (h1.same T3).cell 5 rfl
    have a6 := (h1.same T3).cell 6 rfl
    go_wp2_with fail
    clear a0 a1 a2 a3 a4 a5 a6
    refine (toCase_any D m _ hD (hA0.same T3)).mono ?_
    rintro e w5 ⟨m2, rfl, o2, t5⟩
    have T5 := T3.trans t5
    have h2 := BoxAt.new w5 38 [.slice m2.r D.R.length m2.rc, .slice m2.f D.F.length m2.fc, .slice m2.p D.P.length m2.pc, .int .i64 D.birth, .int .i64 D.joined, .slice m2.s D.S.length m2.sc, .slice m2.e D.E.length m2.ec]
    have al := (Same.refl w5).alloc (.cells #[.slice m2.r D.R.length m2.rc, .slice m2.f D.F.length m2.fc, .slice m2.p D.P.length m2.pc, .int .i64 D.birth, .int .i64 D.joined, .slice m2.s D.S.length m2.sc, .slice m2.e D.E.length m2.ec] 38)
    have T6 := T5.trans al
    have o3 := o2.same al
    have n6 := h2.lt
    go_wp2_with fail
    generalize w5.alloc (.cells #[.slice m2.r D.R.length m2.rc, .slice m2.f D.F.length m2.fc, .slice m2.p D.P.length m2.pc, .int .i64 D.birth, .int .i64 D.joined, .slice m2.s D.S.length m2.sc, .slice m2.e D.E.length m2.ec] 38) = w6 at *
    refine (iFirst_any D m2 x y z v _ hD o3.rules.cap o3.at_).mono ?_
    rintro e w7 ⟨rfl, t7⟩
    have T7 := T6.trans t7
    have HE := hE.out
    go_wp2
    clear HE
    have o7 := o3.same t7
    have hK := Lib.hid (fun (w' : World) (hw' : Same w7 w') => show Same w7 w' ∧ w'.cell? ⟨w.heap.size, 0, none⟩ = some (.slice m.r D.R.length m.rc) ∧ w'.cell? ⟨w.heap.size, 1, none⟩ = some (.slice m.f D.F.length m.fc) ∧ w'.cell? ⟨w.heap.size, 2, none⟩ = some (.slice m.p D.P.length m.pc) ∧ w'.cell? ⟨w.heap.size, 3, none⟩ = some (.int .i64 D.birth) ∧ w'.cell? ⟨w.heap.size, 4, none⟩ = some (.int .i64 D.joined) ∧ w'.cell? ⟨w.heap.size, 5, none⟩ = some (.slice m.s D.S.length m.sc) ∧ w'.cell? ⟨w.heap.size, 6, none⟩ = some (.slice m.e D.E.length m.ec) ∧ w'.cell? ⟨w5.heap.size, 0, none⟩ = some (.slice m2.r D.R.length m2.rc) ∧ w'.cell? ⟨w5.heap.size, 1, none⟩ = some (.slice m2.f D.F.length m2.fc) ∧ w'.cell? ⟨w5.heap.size, 2, none⟩ = some (.slice m2.p D.P.length m2.pc) ∧ w'.cell? ⟨w5.heap.size, 3, none⟩ = some (.int .i64 D.birth) ∧ w'.cell? ⟨w5.heap.size, 4, none⟩ = some (.int .i64 D.joined) ∧ w'.cell? ⟨w5.heap.size, 5, none⟩ = some (.slice m2.s D.S.length m2.sc) ∧ w'.cell? ⟨w5.heap.size, 6, none⟩ = some (.slice m2.e D.E.length m2.ec) from ⟨hw', (h1.same (T7.trans hw')).cell 0 rfl, (h1.same (T7.trans hw')).cell 1 rfl, (h1.same (T7.trans hw')).cell 2 rfl, (h1.same (T7.trans hw')).cell 3 rfl, (h1.same (T7.trans hw')).cell 4 rfl, (h1.same (T7.trans hw')).cell 5 rfl, (h1.same (T7.trans hw')).cell 6 rfl, ((h2.same t7).same hw').cell 0 rfl, ((h2.same t7).same hw').cell 1 rfl, ((h2.same t7).same hw').cell 2 rfl, ((h2.same t7).same hw').cell 3 rfl, ((h2.same t7).same hw').cell 4 rfl, ((h2.same t7).same hw').cell 5 rfl, ((h2.same t7).same hw').cell 6 rfl⟩)
    have HT := Lib.hid (fun (w' : World) (hw' : Same w7 w') => toCase_any D m w' hD (hA0.same (T7.trans hw')))
    go_region_held3 (fun w' => Same w7 w' ∧ w'.cell? ⟨w.heap.size, 0, none⟩ = some (.slice m.r D.R.length m.rc) ∧ w'.cell? ⟨w.heap.size, 1, none⟩ = some (.slice m.f D.F.length m.fc) ∧ w'.cell? ⟨w.heap.size, 2, none⟩ = some (.slice m.p D.P.length m.pc) ∧ w'.cell? ⟨w.heap.size, 3, none⟩ = some (.int .i64 D.birth) ∧ w'.cell? ⟨w.heap.size, 4, none⟩ = some (.int .i64 D.joined) ∧ w'.cell? ⟨w.heap.size, 5, none⟩ = some (.slice m.s D.S.length m.sc) ∧ w'.cell? ⟨w.heap.size, 6, none⟩ = some (.slice m.e D.E.length m.ec) ∧ w'.cell? ⟨w5.heap.size, 0, none⟩ = some (.slice m2.r D.R.length m2.rc) ∧ w'.cell? ⟨w5.heap.size, 1, none⟩ = some (.slice m2.f D.F.length m2.fc) ∧ w'.cell? ⟨w5.heap.size, 2, none⟩ = some (.slice m2.p D.P.length m2.pc) ∧ w'.cell? ⟨w5.heap.size, 3, none⟩ = some (.int .i64 D.birth) ∧ w'.cell? ⟨w5.heap.size, 4, none⟩ = some (.int .i64 D.joined) ∧ w'.cell? ⟨w5.heap.size, 5, none⟩ = some (.slice m2.s D.S.length m2.sc) ∧ w'.cell? ⟨w5.heap.size, 6, none⟩ = some (.slice m2.e D.E.length m2.ec))
      (first | exact hK.out _ (Same.refl _).drew | (go_split_ands; exact hK.out _ (Same.trans (by assumption) hs8)) | (go_split_ands; exact hK.out _ (Same.trans (by assumption) hs9)))
      (first
        | (go_split_ands; go_at_call 28; refine (HT.out _ (by assumption)).mono ?_; rintro e w8 ⟨m3, rfl, o8, hs8⟩)
        | (go_split_ands; go_at_call 30; refine (eqCase_same D m2 m3 _ hD (o7.at_.same (by assumption)) o8.at_).mono ?_; rintro e w9 ⟨rfl, hs9⟩))
    all_goals
      go_split_ands
      go_wp2
      go_ret
      exact ⟨rfl, (hs0.trans T7).trans (by assumption)⟩
  · go_enter Tryz.func7, Tryz.ntmps7
    go_wp2_with fail
    have h1 : BoxAt (w.alloc (.cells #[.slice m.r D.R.length m.rc, .slice m.f D.F.length m.fc, .slice m.p D.P.length m.pc, .int .i64 D.birth, .int .i64 D.joined, .slice m.s D.S.length m.sc, .slice m.e D.E.length m.ec] 73)) (w.heap.size) 73 [.slice m.r D.R.length m.rc, .slice m.f D.F.length m.fc, .slice m.p D.P.length m.pc, .int .i64 D.birth, .int .i64 D.joined, .slice m.s D.S.length m.sc, .slice m.e D.E.length m.ec] := by simpa using (BoxAt.new w 73 [.slice m.r D.R.length m.rc, .slice m.f D.F.length m.fc, .slice m.p D.P.length m.pc, .int .i64 D.birth, .int .i64 D.joined, .slice m.s D.S.length m.sc, .slice m.e D.E.length m.ec])
    have hs0 := (Same.alloc (Same.refl w) (.cells #[.slice m.r D.R.length m.rc, .slice m.f D.F.length m.fc, .slice m.p D.P.length m.pc, .int .i64 D.birth, .int .i64 D.joined, .slice m.s D.S.length m.sc, .slice m.e D.E.length m.ec] 73))
    generalize (w.alloc (.cells #[.slice m.r D.R.length m.rc, .slice m.f D.F.length m.fc, .slice m.p D.P.length m.pc, .int .i64 D.birth, .int .i64 D.joined, .slice m.s D.S.length m.sc, .slice m.e D.E.length m.ec] 73)) = w0 at *
    refine (szCase_no D m 1048576 _ hZ (by omega) (by omega) (by omega) (hA.same hs0)).mono ?_
    rintro e w1 ⟨rfl, t1⟩
    go_wp2
    go_ret
    exact ⟨rfl, hs0.trans t1⟩
end Go.Proofs.YtjfmknhnplefnaaGreat
end

section
/-
  The net of corrections, either side.
-/
namespace Go.Proofs.YtjfmknhnplefnaaGreat
open Go.RowKit
set_option linter.unusedVariables false

def amtOk (x : TCorrection) : Bool := inB x.2.1 0 10000000 && inB x.2.2 0 10000000
def amountsOk (L : List TCorrection) : Bool := L.all amtOk && decide (L.length ≤ 240)
theorem amountsOk_at {L : List TCorrection} (h : amountsOk L = true) {k : Nat} {p : TCorrection} (hp : L[k]? = some p) : (0 ≤ p.2.1 ∧ p.2.1 ≤ 10000000) ∧ 0 ≤ p.2.2 ∧ p.2.2 ≤ 10000000 := by
  rw [amountsOk, Bool.and_eq_true] at h
  have := List.all_eq_true.1 h.1 p (List.mem_of_getElem? hp)
  simpa [amtOk, inB_iff, inB, and_assoc] using this
theorem amountsOk_len {L : List TCorrection} (h : amountsOk L = true) : L.length ≤ 240 := by
  rw [amountsOk, Bool.and_eq_true, decide_eq_true_eq] at h
  exact h.2

theorem and_l {a b : Bool} (h : (a && b) = true) : a = true := by cases a <;> simp_all
theorem and_r {a b : Bool} (h : (a && b) = true) : b = true := by cases b <;> simp_all

def sumBy (g : TCorrection → Int) (L : List TCorrection) : Nat → Int
  | 0 => 0
  | k + 1 => sumBy g L k + (match L[k]? with | some p => g p | none => 0)
theorem sumBy_succ {g : TCorrection → Int} {L : List TCorrection} {k : Nat} {p : TCorrection} (h : L[k]? = some p) : sumBy g L (k + 1) = sumBy g L k + g p := by
  rw [sumBy, h]
theorem sumBy_range {g : TCorrection → Int} {L : List TCorrection} {B : Int} (h : ∀ (k : Nat) (p : TCorrection), L[k]? = some p → -B ≤ g p ∧ g p ≤ B) : ∀ k, k ≤ L.length → -(B * (k : Int)) ≤ sumBy g L k ∧ sumBy g L k ≤ B * (k : Int)
  | 0, _ => by simp [sumBy]
  | k + 1, hk => by
    obtain ⟨p, hp⟩ : ∃ p, L[k]? = some p := ⟨_, List.getElem?_eq_getElem (by omega)⟩
    have h1 := sumBy_range h k (by omega)
    have h2 := h k p hp
    rw [sumBy_succ hp, show B * ((k + 1 : Nat) : Int) = B * (k : Int) + B by rw [show ((k + 1 : Nat) : Int) = (k : Int) + 1 by omega, Int.mul_add, Int.mul_one]]
    omega
theorem mul_le_240 {B : Int} {k : Nat} (hB : 0 ≤ B) (hk : k ≤ 240) : B * (k : Int) ≤ B * 240 := Int.mul_le_mul_of_nonneg_left (by omega) hB

def netG (x : TCorrection) : Int := x.2.2 - x.2.1
def netOf (L : List TCorrection) : Int := if amountsOk L = true then sumBy netG L L.length else 0
theorem net_range {L : List TCorrection} (h : amountsOk L = true) {k : Nat} (hk : k ≤ L.length) : -2400000000 ≤ sumBy netG L k ∧ sumBy netG L k ≤ 2400000000 := by
  have h1 := sumBy_range (g := netG) (B := 10000000) (fun k p hp => by have := amountsOk_at h hp; simp only [netG]; omega) k hk
  have h2 := mul_le_240 (B := 10000000) (by omega) (show k ≤ 240 by have := amountsOk_len h; omega)
  omega

set_option maxHeartbeats 1000000 in
theorem sAmounts_any (A : Option Addr) (c : Nat) (L : List TCorrection) (w : World) (hz : L.length ≤ 9223372036854775807) (hA : AtCorrection w A L) :
    Calls Tryz.prog 75 #[.slice A L.length c] w fun e w' => e = .returned (.bool (amountsOk L)) ∧ Same w w' := by
  go_enter Tryz.func75, Tryz.ntmps75
  go_wp2
  go_loopw [3] (fun i wr => ∃ k : Nat, k ≤ L.length ∧ i = .int .i64 k ∧ Hid ((L.take k).all amtOk = true) ∧ Same w wr) (fun i _ => L.length - (intOf i).toNat)
  case atStart => exact ⟨0, Nat.zero_le _, rfl, by simp [Hid], Same.refl _⟩
  case round =>
    obtain ⟨k, hk, rfl, hall, hs⟩ := hrel
    by_cases hlt : k < L.length
    · obtain ⟨b, off, x, rfl, hc, HX, _⟩ := (hA.same hs).at_ hlt
      clear hA
      obtain ⟨f0, f1, f2⟩ := x
      have c0 := hc 0 _ rfl
      have c1 := hc 1 _ rfl
      have c2 := hc 2 _ rfl
      simp only [Nat.add_zero] at c0
      clear hc
      cases m1 : inB f1 0 10000000
      · have HP := Lib.hid (show amountsOk L = false by rw [amountsOk, all_false HX.out (show amtOk (f0, f1, f2) = false by simp [amtOk, m1])]; simp)
        go_wp2_with (go_at_call 115; refine (l01In_any _ _ _ _).mono ?_; rintro e w' ⟨rfl, rfl⟩)
        go_ret
        exact ⟨ret_bool HP.out.symm, hs⟩
      · cases m2 : inB f2 0 10000000
        · have HP := Lib.hid (show amountsOk L = false by rw [amountsOk, all_false HX.out (show amtOk (f0, f1, f2) = false by simp [amtOk, m2])]; simp)
          go_wp2_with (go_at_call 115; refine (l01In_any _ _ _ _).mono ?_; rintro e w' ⟨rfl, rfl⟩)
          go_ret
          exact ⟨ret_bool HP.out.symm, hs⟩
        · have HP := Lib.hid (all_take_succ hall.out HX.out (show amtOk (f0, f1, f2) = true by simp [amtOk, m1, m2]))
          go_wp2_with (go_at_call 115; refine (l01In_any _ _ _ _).mono ?_; rintro e w' ⟨rfl, rfl⟩)
          go_roundw
          case rel => exact ⟨k + 1, hlt, by go_num, HP, hs⟩
          case measure => simp [intOf]; omega
    · have hl := hall.out
      rw [show k = L.length by omega, List.take_length] at hl
      have HP := Lib.hid hl
      clear hl hall
      go_wp2
      all_goals go_ret
      all_goals exact ⟨ret_bool (by rw [amountsOk, HP.out]; simp; omega), hs⟩

set_option maxHeartbeats 1000000 in
theorem iAmounts_any (A : Option Addr) (c : Nat) (L : List TCorrection) (w : World) (hz : L.length ≤ 9223372036854775807) (hA : AtCorrection w A L) :
    Calls Tryz.prog 78 #[.slice A L.length c] w fun e w' => e = .returned (.bool (amountsOk L)) ∧ Same w w' := by
  go_enter Tryz.func78, Tryz.ntmps78
  go_wp2
  go_loopw [7] (fun i wr => ∃ k : Nat, k ≤ L.length ∧ i = .int .i64 k ∧ Hid ((L.take k).all amtOk = true) ∧ Same w wr) (fun i _ => L.length - (intOf i).toNat)
  case atStart => exact ⟨0, Nat.zero_le _, rfl, by simp [Hid], Same.refl _⟩
  case round =>
    obtain ⟨k, hk, rfl, hall, hs⟩ := hrel
    by_cases hlt : k < L.length
    · obtain ⟨b, off, x, rfl, hc, HX, _⟩ := (hA.same hs).at_ hlt
      clear hA
      obtain ⟨f0, f1, f2⟩ := x
      have c0 := hc 0 _ rfl
      have c1 := hc 1 _ rfl
      have c2 := hc 2 _ rfl
      simp only [Nat.add_zero] at c0
      clear hc
      cases m1 : inB f1 0 10000000
      · have HP := Lib.hid (show amountsOk L = false by rw [amountsOk, all_false HX.out (show amtOk (f0, f1, f2) = false by simp [amtOk, m1])]; simp)
        go_wp2_with (go_at_call 110; refine (within_any _ _ _ _).mono ?_; rintro e w' ⟨rfl, rfl⟩)
        go_ret
        exact ⟨ret_bool HP.out.symm, hs.alloc _⟩
      · cases m2 : inB f2 0 10000000
        · have HP := Lib.hid (show amountsOk L = false by rw [amountsOk, all_false HX.out (show amtOk (f0, f1, f2) = false by simp [amtOk, m2])]; simp)
          go_wp2_with (go_at_call 110; refine (within_any _ _ _ _).mono ?_; rintro e w' ⟨rfl, rfl⟩)
          go_ret
          exact ⟨ret_bool HP.out.symm, hs.alloc _⟩
        · have HP := Lib.hid (all_take_succ hall.out HX.out (show amtOk (f0, f1, f2) = true by simp [amtOk, m1, m2]))
          go_wp2_with (go_at_call 110; refine (within_any _ _ _ _).mono ?_; rintro e w' ⟨rfl, rfl⟩)
          go_roundw
          case rel => exact ⟨k + 1, hlt, by go_num, HP, hs.alloc _⟩
          case measure => simp [intOf]; omega
    · have hl := hall.out
      rw [show k = L.length by omega, List.take_length] at hl
      have HP := Lib.hid hl
      clear hl hall
      go_wp2
      all_goals go_ret
      all_goals exact ⟨ret_bool (by rw [amountsOk, HP.out]; simp; omega), hs⟩

set_option maxHeartbeats 2000000 in
theorem iNetOf_any (A : Option Addr) (c : Nat) (L : List TCorrection) (w : World) (hz : L.length ≤ 9223372036854775807) (hA : AtCorrection w A L) :
    Calls Tryz.prog 25 #[.slice A L.length c] w fun e w' => e = .returned (.int .i64 (netOf L)) ∧ Same w w' := by
  cases m1 : amountsOk L
  · have HF := Lib.hid (show (0 : Int) = (netOf L) by simp [netOf, m1])
    go_enter Tryz.func25, Tryz.ntmps25
    go_wp2_with fail
    refine (iAmounts_any A c L _ hz hA).mono ?_
    rintro e g0 ⟨rfl, hg0⟩
    rw [m1]
    go_wp2
    go_ret
    exact ⟨ret_int HF.out, hg0⟩
  · have HF := Lib.hid (show (netOf L) = sumBy netG L L.length by simp [netOf, m1])
    have HG := Lib.hid (And.intro (fun {k : Nat} (hk : k ≤ L.length) => net_range m1 hk) (fun {k : Nat} {p : TCorrection} (hp : L[k]? = some p) => amountsOk_at m1 hp))
    go_enter Tryz.func25, Tryz.ntmps25
    go_wp2_with fail
    refine (iAmounts_any A c L _ hz hA).mono ?_
    rintro e g0 ⟨rfl, hg0⟩
    rw [m1]
    clear m1
    go_wp2
    go_loopw [3, 11] (fun s i wr => ∃ k : Nat, k ≤ L.length ∧ i = .int .i64 k ∧ s = .int .i64 (sumBy netG L k) ∧ Same w wr) (fun _ i _ => L.length - (intOf i).toNat)
    case atStart => exact ⟨0, Nat.zero_le _, rfl, rfl, hg0⟩
    case round =>
      obtain ⟨k, hk, rfl, rfl, hs⟩ := hrel
      by_cases hlt : k < L.length
      · obtain ⟨b, off, x, rfl, hc, HX, _⟩ := (hA.same hs).at_ hlt
        clear hA
        obtain ⟨hR, hst, hp⟩ := And.intro (HG.out.1 hk) (And.intro (sumBy_succ (g := netG) HX.out) (HG.out.2 HX.out))
        obtain ⟨f0, f1, f2⟩ := x
        dsimp only at hp
        have c0 := hc 0 _ rfl
        have c1 := hc 1 _ rfl
        have c2 := hc 2 _ rfl
        simp only [Nat.add_zero] at c0
        clear hc
        clear HX
        obtain ⟨n, hn⟩ : ∃ n, n = sumBy netG L k := ⟨_, rfl⟩
        rw [← hn] at hst hR ⊢
        clear hn
        have HN := Lib.hid (show sumBy netG L (k + 1) = n + (f2 - f1) from hst)
        clear hst
        go_wp2
        go_roundw
        case rel => exact ⟨k + 1, hlt, by go_num, congrArg (Value.int .i64) (by have := HN.out; omega), hs.alloc _⟩
        case measure => simp [intOf]; omega
      · have hkl : k = L.length := by omega
        go_wp2
        go_ret
        exact ⟨ret_int (by rw [HF.out, hkl]), hs⟩

set_option maxHeartbeats 2000000 in
theorem sNetOf_any (A : Option Addr) (c : Nat) (L : List TCorrection) (w : World) (hz : L.length ≤ 9223372036854775807) (hA : AtCorrection w A L) :
    Calls Tryz.prog 23 #[.slice A L.length c] w fun e w' => e = .returned (.int .i64 (netOf L)) ∧ Same w w' := by
  cases h : amountsOk L
  · have HF := Lib.hid (show (0 : Int) = netOf L by simp [netOf, h])
    have H := Lib.hid h
    clear h
    go_enter Tryz.func23, Tryz.ntmps23
    go_wp2
    go_loopw [3, 4] (fun s i wr => i = .int .i64 0 ∧ s = .int .i64 0 ∧ Same w wr) (fun _ _ _ => 0)
    case atStart => exact ⟨rfl, rfl, Same.refl _⟩
    case round =>
      obtain ⟨rfl, rfl, hs⟩ := hrel
      by_cases hlt : 0 < L.length
      · go_wp2_with fail
        refine (sAmounts_any _ c L _ hz (hA.same hs)).mono ?_
        rintro e w1 ⟨rfl, hs1⟩
        rw [H.out]
        go_wp2
        go_ret
        exact ⟨ret_int HF.out, hs.trans hs1⟩
      · go_wp2
        go_ret
        exact ⟨ret_int HF.out, hs⟩
  · have HF := Lib.hid (show netOf L = sumBy netG L L.length by simp [netOf, h])
    have H := Lib.hid h
    clear h
    go_enter Tryz.func23, Tryz.ntmps23
    go_wp2
    go_loopw [3, 4] (fun s i wr => ∃ k : Nat, k ≤ L.length ∧ i = .int .i64 k ∧ s = .int .i64 (sumBy netG L k) ∧ Same w wr) (fun _ i _ => L.length - (intOf i).toNat)
    case atStart => exact ⟨0, Nat.zero_le _, rfl, rfl, Same.refl _⟩
    case round =>
      obtain ⟨k, hk, rfl, rfl, hs⟩ := hrel
      by_cases hlt : k < L.length
      · go_wp2_with fail
        refine (sAmounts_any _ c L _ hz (hA.same hs)).mono ?_
        rintro e w1 ⟨rfl, hs1⟩
        rw [H.out]
        obtain ⟨b, off, x, rfl, hc, HX, _⟩ := ((hA.same hs).same hs1).at_ hlt
        have hss := hs.trans hs1
        clear hA hs hs1
        obtain ⟨hR, hst, hp⟩ := And.intro (net_range H.out hk) (And.intro (sumBy_succ (g := netG) HX.out) (amountsOk_at H.out HX.out))
        obtain ⟨f0, f1, f2⟩ := x
        dsimp only at hp
        have c0 := hc 0 _ rfl
        have c1 := hc 1 _ rfl
        have c2 := hc 2 _ rfl
        simp only [Nat.add_zero] at c0
        clear hc
        clear HX
        obtain ⟨n, hn⟩ : ∃ n, n = sumBy netG L k := ⟨_, rfl⟩
        rw [← hn] at hst hR ⊢
        clear hn
        have HN := Lib.hid (show sumBy netG L (k + 1) = n + (f2 - f1) from hst)
        clear hst
        go_wp2
        go_quiet (fail)
        go_wp2
        go_roundw
        case rel => exact ⟨k + 1, hlt, by go_num, congrArg (Value.int .i64) (by have := HN.out; omega), hss.drewN _⟩
        case measure => simp [intOf]; omega
      · have hkl : k = L.length := by omega
        go_wp2
        go_ret
        exact ⟨ret_int (by rw [HF.out, hkl]), hs⟩

/-! The net of a list of corrections between two lists of amounts. -/
def sumUp (X : List Int) : Nat → Int
  | 0 => 0
  | k + 1 => sumUp X k + X.getD k 0
theorem sumUp_succ {X : List Int} {k : Nat} {x : Int} (h : X[k]? = some x) : sumUp X (k + 1) = sumUp X k + x := by simp [sumUp, List.getD, h]
theorem sumBy_app (g : TCorrection → Int) (L : List TCorrection) (p : TCorrection) : ∀ k, k ≤ L.length → sumBy g (L ++ [p]) k = sumBy g L k
  | 0, _ => rfl
  | k + 1, h => by
    rw [sumBy, sumBy, sumBy_app g L p k (by omega), List.getElem?_append_left (by omega)]
theorem sumBy_push (g : TCorrection → Int) (L : List TCorrection) (p : TCorrection) : sumBy g (L ++ [p]) (L ++ [p]).length = sumBy g L L.length + g p := by
  rw [List.length_append, List.length_singleton, sumBy, sumBy_app g L p L.length (Nat.le_refl _), List.getElem?_append_right (Nat.le_refl _)]
  simp
theorem corrTo_sum (f : Int) (X Y : List Int) : ∀ k, sumBy netG (corrTo f X Y k) (corrTo f X Y k).length = sumUp Y k - sumUp X k
  | 0 => rfl
  | k + 1 => by
    have ih := corrTo_sum f X Y k
    unfold corrTo sumUp
    by_cases h : X.getD k 0 = Y.getD k 0
    · rw [if_pos h, ih]; omega
    · rw [if_neg h, sumBy_push, ih]
      simp only [netG]
      omega
theorem getD_in {X : List Int} (h : ∀ x ∈ X, 0 ≤ x ∧ x ≤ 10000000) (k : Nat) : 0 ≤ X.getD k 0 ∧ X.getD k 0 ≤ 10000000 := by
  rw [List.getD]
  cases hx : X[k]? with
  | none => simp
  | some x => simpa using h x (List.mem_of_getElem? hx)
theorem corrTo_amounts (f : Int) {X Y : List Int} (hX : ∀ x ∈ X, 0 ≤ x ∧ x ≤ 10000000) (hY : ∀ y ∈ Y, 0 ≤ y ∧ y ≤ 10000000) : ∀ k, (corrTo f X Y k).all amtOk = true
  | 0 => rfl
  | k + 1 => by
    have ih := corrTo_amounts f hX hY k
    unfold corrTo
    split
    · exact ih
    · rw [List.all_append, ih, Bool.true_and]
      have h1 := getD_in hX k
      have h2 := getD_in hY k
      simp only [List.all_cons, List.all_nil, Bool.and_true, amtOk, Bool.and_eq_true]
      exact ⟨inB_iff.2 h1, inB_iff.2 h2⟩
theorem corrs_net (D : TCase) (f t a b : Int) : netOf (corrs D f t a b) = sumUp (ents D f t b) (ents D f t a).length - sumUp (ents D f t a) (ents D f t a).length := by
  have h : amountsOk (corrs D f t a b) = true := by
    rw [amountsOk, Bool.and_eq_true, decide_eq_true_eq]
    exact ⟨corrTo_amounts f (ents_range D f t a) (ents_range D f t b) _, corrs_short D f t a b⟩
  rw [netOf, if_pos h]
  exact corrTo_sum f _ _ _
theorem corrs_net_flip (D : TCase) (f t a b : Int) : netOf (corrs D f t b a) = -netOf (corrs D f t a b) := by
  rw [corrs_net, corrs_net, ents_alike D f t b a]
  omega
theorem sumUp_range {X : List Int} (h : ∀ x ∈ X, 0 ≤ x ∧ x ≤ 10000000) : ∀ k, 0 ≤ sumUp X k ∧ sumUp X k ≤ 10000000 * (k : Int)
  | 0 => by simp [sumUp]
  | k + 1 => by
    have h1 := sumUp_range h k
    have h2 := getD_in h k
    unfold sumUp
    omega
theorem corrTo_mem (f : Int) (X Y : List Int) : ∀ k, ∀ p ∈ corrTo f X Y k, f ≤ p.1 ∧ p.2.1 ≠ p.2.2
  | 0, p, h => by simp [corrTo] at h
  | k + 1, p, h => by
    unfold corrTo at h
    split at h
    · exact corrTo_mem f X Y k p h
    · rename_i hne
      rcases List.mem_append.1 h with h | h
      · exact corrTo_mem f X Y k p h
      · simp at h
        subst h
        exact ⟨by simp only []; omega, hne⟩
theorem corrs_mem {D : TCase} {f t a b : Int} {p : TCorrection} (h : p ∈ corrs D f t a b) : f ≤ p.1 ∧ p.2.1 ≠ p.2.2 := corrTo_mem _ _ _ _ p h
/-- The first correction is none where there are none. -/
theorem firstOf_none {D : TCase} {t a b : Int} : (firstOf (corrs D 20 t a b) == -1) = (((corrs D 20 t a b).length : Int) == 0) := by
  have h : ∀ p ∈ corrs D 20 t a b, (20 : Int) ≤ p.1 ∧ p.2.1 ≠ p.2.2 := fun p hp => corrs_mem hp
  generalize corrs D 20 t a b = L at h
  cases L with
  | nil => rfl
  | cons x L =>
    have hx := (h x (List.mem_cons_self ..)).1
    rw [show (firstOf (x :: L) == -1) = false by simp [firstOf]; omega, show ((((x :: L).length : Nat) : Int) == 0) = false by rw [List.length_cons, beq_eq_false_iff_ne]; omega]
end Go.Proofs.YtjfmknhnplefnaaGreat
end

