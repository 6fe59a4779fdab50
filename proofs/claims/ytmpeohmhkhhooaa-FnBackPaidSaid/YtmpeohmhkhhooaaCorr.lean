/-
  Lists of corrections: their copies and comparisons, and plain sums over them.
-/
import Derived.Test.YtmpeohmhkhhooaaRec
import Derived.Test.YtmpeohmhkhhooaaBase
import Derived.Test.YtmpeohmhkhhooaaFound
import Derived.StillTailTactics
namespace Go.Proofs.Ytmpeohmhkhhooaa
open Go.RowKit

abbrev TCorrection := Int × Int × Int
def cCorrection (x : TCorrection) : List Value := [.int .i64 x.1, .int .i64 x.2.1, .int .i64 x.2.2]
theorem cCorrection_len (x : TCorrection) : (cCorrection x).length = 3 := rfl
theorem cCorrection_one (x : TCorrection) : ∀ u ∈ cCorrection x, u.oneCell' = true := by
  intro u hu
  simp only [cCorrection, List.mem_cons, List.not_mem_nil, or_false] at hu
  rcases hu with rfl | rfl | rfl <;> rfl
theorem Try.infoCorrection : (Try.prog.info? 46).map (fun i => (i.zero, i.size, i.bytes)) = some (some (.agg #[.int .i64 0, .int .i64 0, .int .i64 0]), 3, 24) := by kernel_rfl
abbrev OwnCorrection (w : World) (base : Nat) (v : Value) (L : List TCorrection) : Prop := OwnR 46 3 cCorrection w base v L
abbrev AtCorrection (w : World) (A : Option Addr) (L : List TCorrection) : Prop := RecAt 3 cCorrection w A L

theorem szCorrectionS_any (A : Option Addr) (n c : Nat) (l : Int) (w : World) (hn : n ≤ 9223372036854775807) (h0 : 0 ≤ l) (h1 : l ≤ 1048576) :
    Calls Try.prog 13 #[.slice A n c, .int .i64 l] w fun e w' => e = .returned (.int .i64 (if (n : Int) ≤ l then l - n else -1)) ∧ w = w' := by
  by_cases h : (n : Int) ≤ l
  · go_enter Try.func13, Try.ntmps13
    go_wp2
    go_ret
    exact ⟨rfl, rfl⟩
  · go_enter Try.func13, Try.ntmps13
    go_wp2
    go_ret
    exact ⟨rfl, rfl⟩

theorem toCorrection_any (f0 f1 f2 : Int) (w : World) : Calls Try.prog 39 #[.agg #[.int .i64 f0, .int .i64 f1, .int .i64 f2]] w fun e w' => e = .returned (.agg #[.int .i64 f0, .int .i64 f1, .int .i64 f2]) ∧ Same w w' := by
  go_enter Try.func39, Try.ntmps39
  go_wp2
  exact bodyPost_ret (v := .agg #[.int .i64 f0, .int .i64 f1, .int .i64 f2]) (by simp [results, Try.results39, go_sem]) rfl ⟨rfl, (((Same.refl w).alloc _).alloc _).alloc _⟩

set_option maxHeartbeats 1000000 in
theorem toCorrectionS_any (A : Option Addr) (c : Nat) (L : List TCorrection) (w : World) (hz : L.length ≤ 1048576) (hA : AtCorrection w A L) :
    Calls Try.prog 15 #[.slice A L.length c] w fun e w' => e = .returned (.slice (some ⟨w.heap.size, 0, none⟩) L.length L.length) ∧
      OwnCorrection w' w.heap.size (.slice (some ⟨w.heap.size, 0, none⟩) L.length L.length) L ∧ Same w w' := by
  obtain ⟨i0, hi, hz0, hz1, hz2⟩ := info_parts Try.infoCorrection
  go_enter Try.func15, Try.ntmps15
  go_wp2_with (at_make; refine wpList_make_full _ rfl _ _ 25 rfl w.heap.size 46 i0 (.agg #[.int .i64 0, .int .i64 0, .int .i64 0]) 3 Try.underlying25 hi hz0 hz1 _ _ _ _ L.length rfl rfl rfl rfl ?b2 ?b3 ?b4 ?_)
  case b2 => rw [hz2]; omega
  case b3 => unfold maxLen; omega
  case b4 => exact Nat.le_refl _
  intro w1 hown hgrow
  have hs1 : Same w w1 := (Same.refl w).grown hgrow (fun g h => by cases h)
  have hown1 : OwnCorrection w1 w.heap.size (.slice (some ⟨w.heap.size, 0, none⟩) L.length L.length) (List.replicate L.length (0, 0, 0)) := by
    have hm := madeCells_flat (s := 3) (cells := cCorrection) (cCorrection (0, 0, 0)) (0, 0, 0) rfl rfl (by omega) L.length
    show World.ownsRow _ _ _ _ _ _ _
    rw [List.length_replicate, ← hm]
    exact hown
  clear hown hgrow
  go_wp2
  go_loopw [4] (fun i wr => ∃ k : Nat, k ≤ L.length ∧ i = .int .i64 k ∧
      OwnCorrection wr w.heap.size (.slice (some ⟨w.heap.size, 0, none⟩) L.length L.length) (mix L (List.replicate L.length (0, 0, 0)) k) ∧ Same w wr) (fun i _ => L.length - (intOf i).toNat)
  case atStart => exact ⟨0, Nat.zero_le _, rfl, by rw [mix_zero]; exact hown1, hs1⟩
  case round =>
    obtain ⟨k, hk, rfl, hown, hs⟩ := hrel
    by_cases hlt : k < L.length
    · obtain ⟨b, off, x, rfl, hc, HX, hb⟩ := (hA.same hs).at_ hlt
      clear hA hown1
      obtain ⟨f0, f1, f2⟩ := x
      have c0 := hc 0 _ rfl
      have c1 := hc 1 _ rfl
      have c2 := hc 2 _ rfl
      simp only [Nat.add_zero] at c0
      clear hc
      go_wp2_with fail
      refine (toCorrection_any f0 f1 f2 _).mono ?_
      rintro e w2 ⟨rfl, hs2⟩
      have hown2 := hown.same hs2
      have hss := hs.trans hs2
      clear hown hs2 hs c0 c1 c2
      obtain ⟨u, hu⟩ : ∃ u, (mix L (List.replicate L.length (0, 0, 0)) k)[k]? = some u := ⟨_, List.getElem?_eq_getElem (by rw [mix_length (by simp) (by omega)]; exact hlt)⟩
      obtain ⟨u0_, u1_, u2_⟩ := u
      obtain ⟨_, _, hd, hf⟩ := hown2.atg cCorrection_len hu
      have hst := hown2.set cCorrection_len (k := k) (by rw [mix_length (by simp) (by omega)]; exact hlt) (f0, f1, f2)
      clear hown2 hu
      have d0 := hd 0 _ rfl
      have d1 := hd 1 _ rfl
      have d2 := hd 2 _ rfl
      simp only [Nat.add_zero] at d0
      clear hd
      have hf0 := hf (k * 3)
      have hf1 := hf (k * 3 + 1)
      have hf2 := hf (k * 3 + 2)
      clear hf
      go_wp2
      go_roundw
      case rel =>
        refine ⟨k + 1, hlt, by go_num, ?_, hss.grown hst.out.2 (fun g hg => by injection hg with hg; omega)⟩
        have := hst.out.1
        rw [mix_set HX.out (by simp)] at this
        exact this
      case measure => simp [intOf]; omega
    · go_wp2
      go_ret
      refine ⟨rfl, ?_, hs⟩
      rwa [mix_full _ _ (by omega) (by simp)] at hown

set_option maxHeartbeats 400000 in
theorem eqCorrection_any (f0 f1 f2 g0 g1 g2 : Int) (w : World) : Calls Try.prog 41 #[.agg #[.int .i64 f0, .int .i64 f1, .int .i64 f2], .agg #[.int .i64 g0, .int .i64 g1, .int .i64 g2]] w fun e w' => e = .returned (.bool (decide (((f0, f1, f2) : TCorrection) = (g0, g1, g2)))) ∧ Same w w' := by
  by_cases h0 : f0 = g0
  · subst h0
    have b0 : (f0 != f0) = false := by simp
    by_cases h1 : f1 = g1
    · subst h1
      have b1 : (f1 != f1) = false := by simp
      by_cases h2 : f2 = g2
      · subst h2
        have b2 : (f2 != f2) = false := by simp
        go_enter Try.func41, Try.ntmps41
        go_wp2
        go_ret
        exact ⟨rfl, ((Same.refl w).alloc _).alloc _⟩
      · have b2 : (f2 != g2) = true := by simp [h2]
        have HN := Lib.hid h2
        clear h2
        go_enter Try.func41, Try.ntmps41
        go_wp2
        go_ret
        exact ⟨ret_bool (Eq.symm (decide_eq_false (fun e => HN.out (by simpa using congrArg (fun x : TCorrection => x.2.2) e)))), ((Same.refl w).alloc _).alloc _⟩
    · have b1 : (f1 != g1) = true := by simp [h1]
      have HN := Lib.hid h1
      clear h1
      go_enter Try.func41, Try.ntmps41
      go_wp2
      go_ret
      exact ⟨ret_bool (Eq.symm (decide_eq_false (fun e => HN.out (by simpa using congrArg (fun x : TCorrection => x.2.1) e)))), ((Same.refl w).alloc _).alloc _⟩
  · have b0 : (f0 != g0) = true := by simp [h0]
    have HN := Lib.hid h0
    clear h0
    go_enter Try.func41, Try.ntmps41
    go_wp2
    go_ret
    exact ⟨ret_bool (Eq.symm (decide_eq_false (fun e => HN.out (by simpa using congrArg (fun x : TCorrection => x.1) e)))), ((Same.refl w).alloc _).alloc _⟩

set_option maxRecDepth 10000 in
set_option maxHeartbeats 1000000 in
theorem eqCorrectionS_any (A B : Option Addr) (c d : Nat) (xs ys : List TCorrection) (w : World) (hx : xs.length ≤ 9223372036854775807) (hy : ys.length ≤ 9223372036854775807) (hA : AtCorrection w A xs) (hB : AtCorrection w B ys) :
    Calls Try.prog 17 #[.slice A xs.length c, .slice B ys.length d] w fun e w' => e = .returned (.bool (decide (xs = ys))) ∧ Same w w' := by
  by_cases hl : xs.length = ys.length
  · have hne : ((xs.length : Int) != (ys.length : Int)) = false := by rw [hl]; simp
    have HL := Lib.hid hl
    clear hl
    go_enter Try.func17, Try.ntmps17
    go_wp2
    go_loopw [5] (fun i wr => ∃ k : Nat, k ≤ xs.length ∧ i = .int .i64 k ∧ Hid (xs.take k = ys.take k) ∧ Same w wr) (fun i _ => xs.length - (intOf i).toNat)
    case atStart => exact ⟨0, Nat.zero_le _, rfl, rfl, Same.refl _⟩
    case round =>
      obtain ⟨k, hk, rfl, hall, hd⟩ := hrel
      by_cases hlt : k < xs.length
      · obtain ⟨b, off, x, rfl, hc, HX, _⟩ := (hA.same hd).at_ hlt
        have hlt' : k < ys.length := by have := HL.out; omega
        obtain ⟨b', off', y, rfl, hc', HY, _⟩ := (hB.same hd).at_ hlt'
        clear hA hB
        obtain ⟨f0, f1, f2⟩ := x
        obtain ⟨g0, g1, g2⟩ := y
        have c0 := hc 0 _ rfl
        have c1 := hc 1 _ rfl
        have c2 := hc 2 _ rfl
        simp only [Nat.add_zero] at c0
        clear hc
        have e0 := hc' 0 _ rfl
        have e1 := hc' 1 _ rfl
        have e2 := hc' 2 _ rfl
        simp only [Nat.add_zero] at e0
        clear hc'
        go_wp2
        go_still_tail 8, (by kernel_rfl)
        change wpList _ _ _ _ _ wr.drew
        have hdr : Same w wr.drew := hd.drew
        generalize wr.drew = w2 at *
        go_wp2_with fail
        refine (eqCorrection_any f0 f1 f2 g0 g1 g2 _).mono ?_
        rintro e w3 ⟨rfl, hs3⟩
        have hss := hdr.trans hs3
        clear c0 e0 c1 e1 c2 e2 hs3 hdr hd
        by_cases hxy : ((f0, f1, f2) : TCorrection) = (g0, g1, g2)
        · rw [decide_eq_true hxy]
          have HXY := Lib.hid hxy
          clear hxy
          go_wp2
          go_roundw
          case rel => exact ⟨k + 1, hlt, by go_num, take_eq_succ hall.out HX.out (by rw [HXY.out]; exact HY.out), hss⟩
          case measure => simp [intOf]; omega
        · rw [decide_eq_false hxy]
          have HN := Lib.hid hxy
          clear hxy
          go_wp2
          go_ret
          refine ⟨ret_bool (Eq.symm (decide_eq_false (fun e => HN.out ?_))), hss⟩
          subst e
          exact Option.some.inj (HX.out.symm.trans HY.out)
      · go_wp2
        go_ret
        refine ⟨ret_bool (Eq.symm (decide_eq_true ?_)), hd⟩
        have h1 := hall.out
        have h2 := HL.out
        rw [show k = xs.length by omega, List.take_length, h2, List.take_length] at h1
        exact h1
  · have hne : ((xs.length : Int) != (ys.length : Int)) = true := by simp; omega
    have HL := Lib.hid hl
    clear hl
    go_enter Try.func17, Try.ntmps17
    go_wp2
    go_ret
    exact ⟨ret_bool (Eq.symm (decide_eq_false (fun e => HL.out (by rw [e])))), Same.refl _⟩

def amtOk (x : TCorrection) : Bool := inB x.2.1 0 10000000 && inB x.2.2 0 10000000
def amountsOk (L : List TCorrection) : Bool := L.all amtOk && decide (L.length ≤ 240)
def monOk (x : TCorrection) : Bool := inB x.1 0 3599
def monthsOk (L : List TCorrection) (at_ : Int) : Bool := L.all monOk && inB at_ 0 3599
theorem amountsOk_at {L : List TCorrection} (h : amountsOk L = true) {k : Nat} {p : TCorrection} (hp : L[k]? = some p) : (0 ≤ p.2.1 ∧ p.2.1 ≤ 10000000) ∧ 0 ≤ p.2.2 ∧ p.2.2 ≤ 10000000 := by
  rw [amountsOk, Bool.and_eq_true] at h
  have := List.all_eq_true.1 h.1 p (List.mem_of_getElem? hp)
  simpa [amtOk, inB_iff, inB, and_assoc] using this
theorem monthsOk_at {L : List TCorrection} {a : Int} (h : monthsOk L a = true) {k : Nat} {p : TCorrection} (hp : L[k]? = some p) : 0 ≤ p.1 ∧ p.1 ≤ 3599 := by
  rw [monthsOk, Bool.and_eq_true] at h
  exact inB_iff.1 (List.all_eq_true.1 h.1 p (List.mem_of_getElem? hp))
theorem amountsOk_len {L : List TCorrection} (h : amountsOk L = true) : L.length ≤ 240 := by
  rw [amountsOk, Bool.and_eq_true, decide_eq_true_eq] at h
  exact h.2

theorem and_l {a b : Bool} (h : (a && b) = true) : a = true := by cases a <;> simp_all
theorem and_r {a b : Bool} (h : (a && b) = true) : b = true := by cases b <;> simp_all
theorem monthsOk_when {L : List TCorrection} {a : Int} (h : monthsOk L a = true) : 0 ≤ a ∧ a ≤ 3599 := inB_iff.1 (and_r h)

def sumBy (g : TCorrection → Int) (L : List TCorrection) : Nat → Int
  | 0 => 0
  | k + 1 => sumBy g L k + (match L[k]? with | some p => g p | none => 0)
theorem sumBy_succ {g : TCorrection → Int} {L : List TCorrection} {k : Nat} {p : TCorrection} (h : L[k]? = some p) : sumBy g L (k + 1) = sumBy g L k + g p := by
  rw [sumBy, h]
theorem sumBy_range {g : TCorrection → Int} {L : List TCorrection} {B : Int} (h : ∀ (k : Nat) (p : TCorrection), L[k]? = some p → -B ≤ g p ∧ g p ≤ B) : ∀ k, k ≤ L.length → -(B * (k : Int)) ≤ sumBy g L k ∧ sumBy g L k ≤ B * (k : Int)
  | 0, _ => by simp [sumBy]
  | k + 1, hk => by
    obtain ⟨p, hp⟩ : ∃ p, L[k]? = some p := ⟨_, List.getElem?_eq_getElem (by omega)⟩
    have h1 := sumBy_range h k (by omega)
    have h2 := h k p hp
    rw [sumBy_succ hp, show B * ((k + 1 : Nat) : Int) = B * (k : Int) + B by rw [show ((k + 1 : Nat) : Int) = (k : Int) + 1 by omega, Int.mul_add, Int.mul_one]]
    omega
theorem mul_le_240 {B : Int} {k : Nat} (hB : 0 ≤ B) (hk : k ≤ 240) : B * (k : Int) ≤ B * 240 := Int.mul_le_mul_of_nonneg_left (by omega) hB

def netG (x : TCorrection) : Int := x.2.2 - x.2.1
def netOf (L : List TCorrection) : Int := if amountsOk L = true then sumBy netG L L.length else 0
theorem net_range {L : List TCorrection} (h : amountsOk L = true) {k : Nat} (hk : k ≤ L.length) : -2400000000 ≤ sumBy netG L k ∧ sumBy netG L k ≤ 2400000000 := by
  have h1 := sumBy_range (g := netG) (B := 10000000) (fun k p hp => by have := amountsOk_at h hp; simp only [netG]; omega) k hk
  have h2 := mul_le_240 (B := 10000000) (by omega) (show k ≤ 240 by have := amountsOk_len h; omega)
  omega

def backG (rate at_ : Int) (x : TCorrection) : Int := if 0 < x.2.2 - x.2.1 ∧ x.1 ≤ at_ then (x.2.2 - x.2.1) + ((x.2.2 - x.2.1) * rate * (at_ - x.1)) / 12000 else 0
def backPay (L : List TCorrection) (rate at_ : Int) : Int := if (monthsOk L at_ && amountsOk L && inB rate 0 500) = true then sumBy (backG rate at_) L L.length else 0
theorem back_term {d rate n : Int} (h0 : 0 < d) (h1 : d ≤ 10000000) (r0 : 0 ≤ rate) (r1 : rate ≤ 500) (n0 : 0 ≤ n) (n1 : n ≤ 3599) :
    (0 ≤ d * rate ∧ d * rate ≤ 5000000000) ∧ (0 ≤ d * rate * n ∧ d * rate * n ≤ 17995000000000) ∧ (0 ≤ (d * rate * n) / 12000 ∧ (d * rate * n) / 12000 ≤ 1500000000) := by
  have a0 : 0 ≤ d * rate := Int.mul_nonneg (by omega) r0
  have a1 : d * rate ≤ 10000000 * 500 := Int.mul_le_mul h1 r1 r0 (by omega)
  have b0 : 0 ≤ d * rate * n := Int.mul_nonneg a0 n0
  have b1 : d * rate * n ≤ 5000000000 * 3599 := Int.mul_le_mul (by omega) n1 n0 (by omega)
  refine ⟨⟨a0, by omega⟩, ⟨b0, by omega⟩, ?_⟩
  omega
theorem backG_range {rate at_ : Int} {x : TCorrection} (h : (0 ≤ x.2.1 ∧ x.2.1 ≤ 10000000) ∧ 0 ≤ x.2.2 ∧ x.2.2 ≤ 10000000) (hm : 0 ≤ x.1) (ha : at_ ≤ 3599) (r0 : 0 ≤ rate) (r1 : rate ≤ 500) :
    0 ≤ backG rate at_ x ∧ backG rate at_ x ≤ 1510000000 := by
  unfold backG
  split
  · rename_i hc
    have := back_term (d := x.2.2 - x.2.1) (rate := rate) (n := at_ - x.1) hc.1 (by omega) r0 r1 (by omega) (by omega)
    omega
  · omega
theorem back_range {L : List TCorrection} {rate at_ : Int} (hm : monthsOk L at_ = true) (h : amountsOk L = true) (hr : inB rate 0 500 = true) {k : Nat} (hk : k ≤ L.length) : -362400000000 ≤ sumBy (backG rate at_) L k ∧ sumBy (backG rate at_) L k ≤ 362400000000 := by
  have ha : at_ ≤ 3599 := by rw [monthsOk, Bool.and_eq_true, inB_iff] at hm; exact hm.2.2
  have h1 := sumBy_range (g := backG rate at_) (B := 1510000000) (fun k p hp => by have := backG_range (amountsOk_at h hp) (monthsOk_at hm hp).1 ha (inB_iff.1 hr).1 (inB_iff.1 hr).2; omega) k hk
  have h2 := mul_le_240 (B := 1510000000) (by omega) (show k ≤ 240 by have := amountsOk_len h; omega)
  omega

def overG (from_ : Int) (x : TCorrection) : Int := if 0 < x.2.1 - x.2.2 ∧ from_ ≤ x.1 then x.2.1 - x.2.2 else 0
def overpaid (L : List TCorrection) (at_ horizon : Int) : Int := if (monthsOk L at_ && amountsOk L && inB horizon 0 3599) = true then sumBy (overG (at_ - horizon)) L L.length else 0
theorem over_range {L : List TCorrection} {f : Int} (h : amountsOk L = true) {k : Nat} (hk : k ≤ L.length) : -2400000000 ≤ sumBy (overG f) L k ∧ sumBy (overG f) L k ≤ 2400000000 := by
  have h1 := sumBy_range (g := overG f) (B := 10000000) (fun k p hp => by have := amountsOk_at h hp; simp only [overG]; split <;> omega) k hk
  have h2 := mul_le_240 (B := 10000000) (by omega) (show k ≤ 240 by have := amountsOk_len h; omega)
  omega
end Go.Proofs.Ytmpeohmhkhhooaa
