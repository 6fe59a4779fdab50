/-
  The contracts of NetOf, BackPay and Overpaid.
-/
import Derived.Test.YtmpeohmhkhhooaaCorrOk
namespace Go.Proofs.Ytmpeohmhkhhooaa
open Go.RowKit

set_option maxHeartbeats 2000000 in
theorem iNetOf_any (A : Option Addr) (c : Nat) (L : List TCorrection) (w : World) (hz : L.length ≤ 9223372036854775807) (hA : AtCorrection w A L) :
    Calls Try.prog 16 #[.slice A L.length c] w fun e w' => e = .returned (.int .i64 (netOf L)) ∧ Same w w' := by
  cases m1 : amountsOk L
  · have HF := Lib.hid (show (0 : Int) = (netOf L) by simp [netOf, m1])
    go_enter Try.func16, Try.ntmps16
    go_wp2_with fail
    refine (iAmounts_any A c L _ hz hA).mono ?_
    rintro e g0 ⟨rfl, hg0⟩
    rw [m1]
    go_wp2
    go_ret
    exact ⟨ret_int HF.out, hg0⟩
  · have HF := Lib.hid (show (netOf L) = sumBy netG L L.length by simp [netOf, m1])
    have HG := Lib.hid (And.intro (fun {k : Nat} (hk : k ≤ L.length) => net_range m1 hk) (fun {k : Nat} {p : TCorrection} (hp : L[k]? = some p) => amountsOk_at m1 hp))
    go_enter Try.func16, Try.ntmps16
    go_wp2_with fail
    refine (iAmounts_any A c L _ hz hA).mono ?_
    rintro e g0 ⟨rfl, hg0⟩
    rw [m1]
    clear m1
    go_wp2
    go_loopw [3, 11] (fun s i wr => ∃ k : Nat, k ≤ L.length ∧ i = .int .i64 k ∧ s = .int .i64 (sumBy netG L k) ∧ Same w wr) (fun _ i _ => L.length - (intOf i).toNat)
    case atStart => exact ⟨0, Nat.zero_le _, rfl, rfl, hg0⟩
    case round =>
      obtain ⟨k, hk, rfl, rfl, hs⟩ := hrel
      by_cases hlt : k < L.length
      · obtain ⟨b, off, x, rfl, hc, HX, _⟩ := (hA.same hs).at_ hlt
        clear hA
        obtain ⟨hR, hst, hp⟩ := And.intro (HG.out.1 hk) (And.intro (sumBy_succ (g := netG) HX.out) (HG.out.2 HX.out))
        obtain ⟨f0, f1, f2⟩ := x
        dsimp only at hp
        have c0 := hc 0 _ rfl
        have c1 := hc 1 _ rfl
        have c2 := hc 2 _ rfl
        simp only [Nat.add_zero] at c0
        clear hc
        clear HX
        obtain ⟨n, hn⟩ : ∃ n, n = sumBy netG L k := ⟨_, rfl⟩
        rw [← hn] at hst hR ⊢
        clear hn
        have HN := Lib.hid (show sumBy netG L (k + 1) = n + (f2 - f1) from hst)
        clear hst
        go_wp2
        go_roundw
        case rel => exact ⟨k + 1, hlt, by go_num, congrArg (Value.int .i64) (by have := HN.out; omega), hs.alloc _⟩
        case measure => simp [intOf]; omega
      · have hkl : k = L.length := by omega
        go_wp2
        go_ret
        exact ⟨ret_int (by rw [HF.out, hkl]), hs⟩

set_option maxHeartbeats 2000000 in
theorem iBackPay_any (A : Option Addr) (c : Nat) (L : List TCorrection) (r a : Int) (w : World) (hz : L.length ≤ 9223372036854775807) (hA : AtCorrection w A L) :
    Calls Try.prog 34 #[.slice A L.length c, .int .i64 r, .int .i64 a] w fun e w' => e = .returned (.int .i64 (backPay L r a)) ∧ Same w w' := by
  cases m1 : amountsOk L
  · have HF := Lib.hid (show (0 : Int) = (backPay L r a) by simp [backPay, m1])
    go_enter Try.func34, Try.ntmps34
    go_wp2_with fail
    refine (iAmounts_any A c L _ hz hA).mono ?_
    rintro e g0 ⟨rfl, hg0⟩
    rw [m1]
    go_wp2
    go_ret
    exact ⟨ret_int HF.out, hg0⟩
  · cases m2 : monthsOk L a
    · have HF := Lib.hid (show (0 : Int) = (backPay L r a) by simp [backPay, m1, m2])
      go_enter Try.func34, Try.ntmps34
      go_wp2_with fail
      refine (iAmounts_any A c L _ hz hA).mono ?_
      rintro e g0 ⟨rfl, hg0⟩
      rw [m1]
      go_wp2_with fail
      refine (iMonths_any A c L a _ hz (hA.same hg0)).mono ?_
      rintro e g1 ⟨rfl, hg1⟩
      rw [m2]
      go_wp2
      go_ret
      exact ⟨ret_int HF.out, (hg0.trans hg1)⟩
    · cases m3 : inB r 0 500
      · have HF := Lib.hid (show (0 : Int) = (backPay L r a) by simp [backPay, m1, m2, m3])
        go_enter Try.func34, Try.ntmps34
        go_wp2_with fail
        refine (iAmounts_any A c L _ hz hA).mono ?_
        rintro e g0 ⟨rfl, hg0⟩
        rw [m1]
        go_wp2_with fail
        refine (iMonths_any A c L a _ hz (hA.same hg0)).mono ?_
        rintro e g1 ⟨rfl, hg1⟩
        rw [m2]
        go_wp2_with fail
        refine (within_any _ _ _ _).mono ?_
        rintro e g2 ⟨rfl, rfl⟩
        rw [m3]
        go_wp2
        go_ret
        exact ⟨ret_int HF.out, (hg0.trans hg1)⟩
      · have HF := Lib.hid (show (backPay L r a) = sumBy (backG r a) L L.length by simp [backPay, m1, m2, m3])
        have HG := Lib.hid (And.intro (fun {k : Nat} (hk : k ≤ L.length) => back_range m2 m1 m3 hk) (fun {k : Nat} {p : TCorrection} (hp : L[k]? = some p) => And.intro (amountsOk_at m1 hp) (And.intro (monthsOk_at m2 hp) (And.intro (inB_iff.1 m3) (monthsOk_when m2)))))
        go_enter Try.func34, Try.ntmps34
        go_wp2_with fail
        refine (iAmounts_any A c L _ hz hA).mono ?_
        rintro e g0 ⟨rfl, hg0⟩
        rw [m1]
        go_wp2_with fail
        refine (iMonths_any A c L a _ hz (hA.same hg0)).mono ?_
        rintro e g1 ⟨rfl, hg1⟩
        rw [m2]
        go_wp2_with fail
        refine (within_any _ _ _ _).mono ?_
        rintro e g2 ⟨rfl, rfl⟩
        rw [m3]
        clear m1 m2 m3
        go_wp2
        go_loopw [7, 27] (fun s i wr => ∃ k : Nat, k ≤ L.length ∧ i = .int .i64 k ∧ s = .int .i64 (sumBy (backG r a) L k) ∧ Same w wr) (fun _ i _ => L.length - (intOf i).toNat)
        case atStart => exact ⟨0, Nat.zero_le _, rfl, rfl, (hg0.trans hg1)⟩
        case round =>
          obtain ⟨k, hk, rfl, rfl, hs⟩ := hrel
          by_cases hlt : k < L.length
          · obtain ⟨b, off, x, rfl, hc, HX, _⟩ := (hA.same hs).at_ hlt
            clear hA
            obtain ⟨hR, hst, hp⟩ := And.intro (HG.out.1 hk) (And.intro (sumBy_succ (g := (backG r a)) HX.out) (HG.out.2 HX.out))
            obtain ⟨f0, f1, f2⟩ := x
            dsimp only at hp
            have c0 := hc 0 _ rfl
            have c1 := hc 1 _ rfl
            have c2 := hc 2 _ rfl
            simp only [Nat.add_zero] at c0
            clear hc
            clear HX
            obtain ⟨n, hn⟩ : ∃ n, n = sumBy (backG r a) L k := ⟨_, rfl⟩
            rw [← hn] at hst hR ⊢
            clear hn
            by_cases h1 : 0 < f2 - f1
            · by_cases h2 : f0 ≤ a
              · have HN := Lib.hid (show sumBy (backG r a) L (k + 1) = n + ((f2 - f1) + ((f2 - f1) * r * (a - f0)) / 12000) by rw [hst]; simp only [backG]; rw [if_pos ⟨h1, h2⟩])
                have ht := back_term (d := f2 - f1) (rate := r) (n := a - f0) h1 (by omega) (by omega) (by omega) (by omega) (by omega)
                clear hst
                go_wp2
                go_roundw
                case rel => exact ⟨k + 1, hlt, by go_num, congrArg (Value.int .i64) (by have := HN.out; omega), hs.alloc _⟩
                case measure => simp [intOf]; omega
              · have HN := Lib.hid (show sumBy (backG r a) L (k + 1) = n by rw [hst]; simp only [backG]; rw [if_neg (fun e => h2 e.2)]; omega)
                clear hst
                go_wp2
                go_roundw
                case rel => exact ⟨k + 1, hlt, by go_num, congrArg (Value.int .i64) (by have := HN.out; omega), hs.alloc _⟩
                case measure => simp [intOf]; omega
            · have HN := Lib.hid (show sumBy (backG r a) L (k + 1) = n by rw [hst]; simp only [backG]; rw [if_neg (fun e => h1 e.1)]; omega)
              clear hst
              go_wp2
              go_roundw
              case rel => exact ⟨k + 1, hlt, by go_num, congrArg (Value.int .i64) (by have := HN.out; omega), hs.alloc _⟩
              case measure => simp [intOf]; omega
          · have hkl : k = L.length := by omega
            go_wp2
            go_ret
            exact ⟨ret_int (by rw [HF.out, hkl]), hs⟩

set_option maxHeartbeats 2000000 in
theorem sBackPay_any (A : Option Addr) (c : Nat) (L : List TCorrection) (r a : Int) (w : World) (hz : L.length ≤ 9223372036854775807) (hA : AtCorrection w A L) :
    Calls Try.prog 33 #[.slice A L.length c, .int .i64 r, .int .i64 a] w fun e w' => e = .returned (.int .i64 (backPay L r a)) ∧ Same w w' := by
  cases m1 : (monthsOk L a && amountsOk L)
  · have HF := Lib.hid (show (0 : Int) = (backPay L r a) by simp [backPay, m1])
    go_enter Try.func33, Try.ntmps33
    go_wp2_with fail
    refine (sMonths_any A c L a _ hz hA).mono ?_
    rintro e g0 ⟨rfl, hg0⟩
    rw [m1]
    go_wp2
    go_ret
    exact ⟨ret_int HF.out, hg0⟩
  · cases m3 : inB r 0 500
    · have HF := Lib.hid (show (0 : Int) = (backPay L r a) by simp [backPay, m1, m3])
      go_enter Try.func33, Try.ntmps33
      go_wp2_with fail
      refine (sMonths_any A c L a _ hz hA).mono ?_
      rintro e g0 ⟨rfl, hg0⟩
      rw [m1]
      go_wp2_with fail
      refine (l01In_any _ _ _ _).mono ?_
      rintro e g1 ⟨rfl, rfl⟩
      rw [m3]
      go_wp2
      go_ret
      exact ⟨ret_int HF.out, hg0⟩
    · have HF := Lib.hid (show (backPay L r a) = sumBy (backG r a) L L.length by simp [backPay, m1, m3])
      have HG := Lib.hid (And.intro (fun {k : Nat} (hk : k ≤ L.length) => back_range (and_l m1) (and_r m1) m3 hk) (fun {k : Nat} {p : TCorrection} (hp : L[k]? = some p) => And.intro (amountsOk_at (and_r m1) hp) (And.intro (monthsOk_at (and_l m1) hp) (And.intro (inB_iff.1 m3) (monthsOk_when (and_l m1))))))
      go_enter Try.func33, Try.ntmps33
      go_wp2_with fail
      refine (sMonths_any A c L a _ hz hA).mono ?_
      rintro e g0 ⟨rfl, hg0⟩
      rw [m1]
      go_wp2_with fail
      refine (l01In_any _ _ _ _).mono ?_
      rintro e g1 ⟨rfl, rfl⟩
      rw [m3]
      clear m1 m3
      go_wp2
      go_loopw [7, 8] (fun s i wr => ∃ k : Nat, k ≤ L.length ∧ i = .int .i64 k ∧ s = .int .i64 (sumBy (backG r a) L k) ∧ Same w wr) (fun _ i _ => L.length - (intOf i).toNat)
      case atStart => exact ⟨0, Nat.zero_le _, rfl, rfl, hg0⟩
      case round =>
        obtain ⟨k, hk, rfl, rfl, hs⟩ := hrel
        by_cases hlt : k < L.length
        · obtain ⟨b, off, x, rfl, hc, HX, _⟩ := (hA.same hs).at_ hlt
          clear hA
          obtain ⟨hR, hst, hp⟩ := And.intro (HG.out.1 hk) (And.intro (sumBy_succ (g := (backG r a)) HX.out) (HG.out.2 HX.out))
          obtain ⟨f0, f1, f2⟩ := x
          dsimp only at hp
          have c0 := hc 0 _ rfl
          have c1 := hc 1 _ rfl
          have c2 := hc 2 _ rfl
          simp only [Nat.add_zero] at c0
          clear hc
          clear HX
          obtain ⟨n, hn⟩ : ∃ n, n = sumBy (backG r a) L k := ⟨_, rfl⟩
          rw [← hn] at hst hR ⊢
          clear hn
          by_cases h1 : 0 < f2 - f1
          · by_cases h2 : f0 ≤ a
            · have HN := Lib.hid (show sumBy (backG r a) L (k + 1) = n + ((f2 - f1) + ((f2 - f1) * r * (a - f0)) / 12000) by rw [hst]; simp only [backG]; rw [if_pos ⟨h1, h2⟩])
              have ht := back_term (d := f2 - f1) (rate := r) (n := a - f0) h1 (by omega) (by omega) (by omega) (by omega) (by omega)
              clear hst
              go_wp2
              go_quiet (fail)
              go_wp2
              go_roundw
              case rel => exact ⟨k + 1, hlt, by go_num, congrArg (Value.int .i64) (by have := HN.out; omega), hs.drewN _⟩
              case measure => simp [intOf]; omega
            · have HN := Lib.hid (show sumBy (backG r a) L (k + 1) = n by rw [hst]; simp only [backG]; rw [if_neg (fun e => h2 e.2)]; omega)
              clear hst
              go_wp2
              go_quiet (fail)
              go_wp2
              go_roundw
              case rel => exact ⟨k + 1, hlt, by go_num, congrArg (Value.int .i64) (by have := HN.out; omega), hs.drewN _⟩
              case measure => simp [intOf]; omega
          · have HN := Lib.hid (show sumBy (backG r a) L (k + 1) = n by rw [hst]; simp only [backG]; rw [if_neg (fun e => h1 e.1)]; omega)
            clear hst
            go_wp2
            go_quiet (fail)
            go_wp2
            go_roundw
            case rel => exact ⟨k + 1, hlt, by go_num, congrArg (Value.int .i64) (by have := HN.out; omega), hs.drewN _⟩
            case measure => simp [intOf]; omega
        · have hkl : k = L.length := by omega
          go_wp2
          go_ret
          exact ⟨ret_int (by rw [HF.out, hkl]), hs⟩

set_option maxHeartbeats 2000000 in
theorem iOverpaid_any (A : Option Addr) (c : Nat) (L : List TCorrection) (a h : Int) (w : World) (hz : L.length ≤ 9223372036854775807) (hA : AtCorrection w A L) :
    Calls Try.prog 36 #[.slice A L.length c, .int .i64 a, .int .i64 h] w fun e w' => e = .returned (.int .i64 (overpaid L a h)) ∧ Same w w' := by
  cases m1 : amountsOk L
  · have HF := Lib.hid (show (0 : Int) = (overpaid L a h) by simp [overpaid, m1])
    go_enter Try.func36, Try.ntmps36
    go_wp2_with fail
    refine (iAmounts_any A c L _ hz hA).mono ?_
    rintro e g0 ⟨rfl, hg0⟩
    rw [m1]
    go_wp2
    go_ret
    exact ⟨ret_int HF.out, hg0⟩
  · cases m2 : monthsOk L a
    · have HF := Lib.hid (show (0 : Int) = (overpaid L a h) by simp [overpaid, m1, m2])
      go_enter Try.func36, Try.ntmps36
      go_wp2_with fail
      refine (iAmounts_any A c L _ hz hA).mono ?_
      rintro e g0 ⟨rfl, hg0⟩
      rw [m1]
      go_wp2_with fail
      refine (iMonths_any A c L a _ hz (hA.same hg0)).mono ?_
      rintro e g1 ⟨rfl, hg1⟩
      rw [m2]
      go_wp2
      go_ret
      exact ⟨ret_int HF.out, (hg0.trans hg1)⟩
    · cases m3 : inB h 0 3599
      · have HF := Lib.hid (show (0 : Int) = (overpaid L a h) by simp [overpaid, m1, m2, m3])
        go_enter Try.func36, Try.ntmps36
        go_wp2_with fail
        refine (iAmounts_any A c L _ hz hA).mono ?_
        rintro e g0 ⟨rfl, hg0⟩
        rw [m1]
        go_wp2_with fail
        refine (iMonths_any A c L a _ hz (hA.same hg0)).mono ?_
        rintro e g1 ⟨rfl, hg1⟩
        rw [m2]
        go_wp2_with fail
        refine (within_any _ _ _ _).mono ?_
        rintro e g2 ⟨rfl, rfl⟩
        rw [m3]
        go_wp2
        go_ret
        exact ⟨ret_int HF.out, (hg0.trans hg1)⟩
      · have HF := Lib.hid (show (overpaid L a h) = sumBy (overG (a - h)) L L.length by simp [overpaid, m1, m2, m3])
        have HG := Lib.hid (And.intro (fun {k : Nat} (hk : k ≤ L.length) => over_range (f := a - h) m1 hk) (fun {k : Nat} {p : TCorrection} (hp : L[k]? = some p) => And.intro (amountsOk_at m1 hp) (And.intro (monthsOk_at m2 hp) (And.intro (inB_iff.1 m3) (monthsOk_when m2)))))
        go_enter Try.func36, Try.ntmps36
        go_wp2_with fail
        refine (iAmounts_any A c L _ hz hA).mono ?_
        rintro e g0 ⟨rfl, hg0⟩
        rw [m1]
        go_wp2_with fail
        refine (iMonths_any A c L a _ hz (hA.same hg0)).mono ?_
        rintro e g1 ⟨rfl, hg1⟩
        rw [m2]
        go_wp2_with fail
        refine (within_any _ _ _ _).mono ?_
        rintro e g2 ⟨rfl, rfl⟩
        rw [m3]
        clear m1 m2 m3
        go_wp2
        go_loopw [7, 26] (fun s i wr => ∃ k : Nat, k ≤ L.length ∧ i = .int .i64 k ∧ s = .int .i64 (sumBy (overG (a - h)) L k) ∧ Same w wr) (fun _ i _ => L.length - (intOf i).toNat)
        case atStart => exact ⟨0, Nat.zero_le _, rfl, rfl, (hg0.trans hg1)⟩
        case round =>
          obtain ⟨k, hk, rfl, rfl, hs⟩ := hrel
          by_cases hlt : k < L.length
          · obtain ⟨b, off, x, rfl, hc, HX, _⟩ := (hA.same hs).at_ hlt
            clear hA
            obtain ⟨hR, hst, hp⟩ := And.intro (HG.out.1 hk) (And.intro (sumBy_succ (g := (overG (a - h))) HX.out) (HG.out.2 HX.out))
            obtain ⟨f0, f1, f2⟩ := x
            dsimp only at hp
            have c0 := hc 0 _ rfl
            have c1 := hc 1 _ rfl
            have c2 := hc 2 _ rfl
            simp only [Nat.add_zero] at c0
            clear hc
            clear HX
            obtain ⟨n, hn⟩ : ∃ n, n = sumBy (overG (a - h)) L k := ⟨_, rfl⟩
            rw [← hn] at hst hR ⊢
            clear hn
            by_cases h1 : 0 < f1 - f2
            · by_cases h2 : a - h ≤ f0
              · have HN := Lib.hid (show sumBy (overG (a - h)) L (k + 1) = n + (f1 - f2) by rw [hst]; simp only [overG]; rw [if_pos ⟨h1, h2⟩])
                clear hst
                go_wp2
                go_roundw
                case rel => exact ⟨k + 1, hlt, by go_num, congrArg (Value.int .i64) (by have := HN.out; omega), hs.alloc _⟩
                case measure => simp [intOf]; omega
              · have HN := Lib.hid (show sumBy (overG (a - h)) L (k + 1) = n by rw [hst]; simp only [overG]; rw [if_neg (fun e => h2 e.2)]; omega)
                clear hst
                go_wp2
                go_roundw
                case rel => exact ⟨k + 1, hlt, by go_num, congrArg (Value.int .i64) (by have := HN.out; omega), hs.alloc _⟩
                case measure => simp [intOf]; omega
            · have HN := Lib.hid (show sumBy (overG (a - h)) L (k + 1) = n by rw [hst]; simp only [overG]; rw [if_neg (fun e => h1 e.1)]; omega)
              clear hst
              go_wp2
              go_roundw
              case rel => exact ⟨k + 1, hlt, by go_num, congrArg (Value.int .i64) (by have := HN.out; omega), hs.alloc _⟩
              case measure => simp [intOf]; omega
          · have hkl : k = L.length := by omega
            go_wp2
            go_ret
            exact ⟨ret_int (by rw [HF.out, hkl]), hs⟩

set_option maxHeartbeats 2000000 in
theorem sOverpaid_any (A : Option Addr) (c : Nat) (L : List TCorrection) (a h : Int) (w : World) (hz : L.length ≤ 9223372036854775807) (hA : AtCorrection w A L) :
    Calls Try.prog 35 #[.slice A L.length c, .int .i64 a, .int .i64 h] w fun e w' => e = .returned (.int .i64 (overpaid L a h)) ∧ Same w w' := by
  cases m1 : (monthsOk L a && amountsOk L)
  · have HF := Lib.hid (show (0 : Int) = (overpaid L a h) by simp [overpaid, m1])
    go_enter Try.func35, Try.ntmps35
    go_wp2_with fail
    refine (sMonths_any A c L a _ hz hA).mono ?_
    rintro e g0 ⟨rfl, hg0⟩
    rw [m1]
    go_wp2
    go_ret
    exact ⟨ret_int HF.out, hg0⟩
  · cases m3 : inB h 0 3599
    · have HF := Lib.hid (show (0 : Int) = (overpaid L a h) by simp [overpaid, m1, m3])
      go_enter Try.func35, Try.ntmps35
      go_wp2_with fail
      refine (sMonths_any A c L a _ hz hA).mono ?_
      rintro e g0 ⟨rfl, hg0⟩
      rw [m1]
      go_wp2_with fail
      refine (l01In_any _ _ _ _).mono ?_
      rintro e g1 ⟨rfl, rfl⟩
      rw [m3]
      go_wp2
      go_ret
      exact ⟨ret_int HF.out, hg0⟩
    · have HF := Lib.hid (show (overpaid L a h) = sumBy (overG (a - h)) L L.length by simp [overpaid, m1, m3])
      have HG := Lib.hid (And.intro (fun {k : Nat} (hk : k ≤ L.length) => over_range (f := a - h) (and_r m1) hk) (fun {k : Nat} {p : TCorrection} (hp : L[k]? = some p) => And.intro (amountsOk_at (and_r m1) hp) (And.intro (monthsOk_at (and_l m1) hp) (And.intro (inB_iff.1 m3) (monthsOk_when (and_l m1))))))
      go_enter Try.func35, Try.ntmps35
      go_wp2_with fail
      refine (sMonths_any A c L a _ hz hA).mono ?_
      rintro e g0 ⟨rfl, hg0⟩
      rw [m1]
      go_wp2_with fail
      refine (l01In_any _ _ _ _).mono ?_
      rintro e g1 ⟨rfl, rfl⟩
      rw [m3]
      clear m1 m3
      go_wp2
      go_loopw [7, 8] (fun s i wr => ∃ k : Nat, k ≤ L.length ∧ i = .int .i64 k ∧ s = .int .i64 (sumBy (overG (a - h)) L k) ∧ Same w wr) (fun _ i _ => L.length - (intOf i).toNat)
      case atStart => exact ⟨0, Nat.zero_le _, rfl, rfl, hg0⟩
      case round =>
        obtain ⟨k, hk, rfl, rfl, hs⟩ := hrel
        by_cases hlt : k < L.length
        · obtain ⟨b, off, x, rfl, hc, HX, _⟩ := (hA.same hs).at_ hlt
          clear hA
          obtain ⟨hR, hst, hp⟩ := And.intro (HG.out.1 hk) (And.intro (sumBy_succ (g := (overG (a - h))) HX.out) (HG.out.2 HX.out))
          obtain ⟨f0, f1, f2⟩ := x
          dsimp only at hp
          have c0 := hc 0 _ rfl
          have c1 := hc 1 _ rfl
          have c2 := hc 2 _ rfl
          simp only [Nat.add_zero] at c0
          clear hc
          clear HX
          obtain ⟨n, hn⟩ : ∃ n, n = sumBy (overG (a - h)) L k := ⟨_, rfl⟩
          rw [← hn] at hst hR ⊢
          clear hn
          by_cases h1 : 0 < f1 - f2
          · by_cases h2 : a - h ≤ f0
            · have HN := Lib.hid (show sumBy (overG (a - h)) L (k + 1) = n + (f1 - f2) by rw [hst]; simp only [overG]; rw [if_pos ⟨h1, h2⟩])
              clear hst
              go_wp2
              go_quiet (fail)
              go_wp2
              go_roundw
              case rel => exact ⟨k + 1, hlt, by go_num, congrArg (Value.int .i64) (by have := HN.out; omega), hs.drewN _⟩
              case measure => simp [intOf]; omega
            · have HN := Lib.hid (show sumBy (overG (a - h)) L (k + 1) = n by rw [hst]; simp only [overG]; rw [if_neg (fun e => h2 e.2)]; omega)
              clear hst
              go_wp2
              go_quiet (fail)
              go_wp2
              go_roundw
              case rel => exact ⟨k + 1, hlt, by go_num, congrArg (Value.int .i64) (by have := HN.out; omega), hs.drewN _⟩
              case measure => simp [intOf]; omega
          · have HN := Lib.hid (show sumBy (overG (a - h)) L (k + 1) = n by rw [hst]; simp only [overG]; rw [if_neg (fun e => h1 e.1)]; omega)
            clear hst
            go_wp2
            go_quiet (fail)
            go_wp2
            go_roundw
            case rel => exact ⟨k + 1, hlt, by go_num, congrArg (Value.int .i64) (by have := HN.out; omega), hs.drewN _⟩
            case measure => simp [intOf]; omega
        · have hkl : k = L.length := by omega
          go_wp2
          go_ret
          exact ⟨ret_int (by rw [HF.out, hkl]), hs⟩

set_option maxHeartbeats 2000000 in
theorem sNetOf_any (A : Option Addr) (c : Nat) (L : List TCorrection) (w : World) (hz : L.length ≤ 9223372036854775807) (hA : AtCorrection w A L) :
    Calls Try.prog 14 #[.slice A L.length c] w fun e w' => e = .returned (.int .i64 (netOf L)) ∧ Same w w' := by
  cases h : amountsOk L
  · have HF := Lib.hid (show (0 : Int) = netOf L by simp [netOf, h])
    have H := Lib.hid h
    clear h
    go_enter Try.func14, Try.ntmps14
    go_wp2
    go_loopw [3, 4] (fun s i wr => i = .int .i64 0 ∧ s = .int .i64 0 ∧ Same w wr) (fun _ _ _ => 0)
    case atStart => exact ⟨rfl, rfl, Same.refl _⟩
    case round =>
      obtain ⟨rfl, rfl, hs⟩ := hrel
      by_cases hlt : 0 < L.length
      · go_wp2_with fail
        refine (sAmounts_any _ c L _ hz (hA.same hs)).mono ?_
        rintro e w1 ⟨rfl, hs1⟩
        rw [H.out]
        go_wp2
        go_ret
        exact ⟨ret_int HF.out, hs.trans hs1⟩
      · go_wp2
        go_ret
        exact ⟨ret_int HF.out, hs⟩
  · have HF := Lib.hid (show netOf L = sumBy netG L L.length by simp [netOf, h])
    have H := Lib.hid h
    clear h
    go_enter Try.func14, Try.ntmps14
    go_wp2
    go_loopw [3, 4] (fun s i wr => ∃ k : Nat, k ≤ L.length ∧ i = .int .i64 k ∧ s = .int .i64 (sumBy netG L k) ∧ Same w wr) (fun _ i _ => L.length - (intOf i).toNat)
    case atStart => exact ⟨0, Nat.zero_le _, rfl, rfl, Same.refl _⟩
    case round =>
      obtain ⟨k, hk, rfl, rfl, hs⟩ := hrel
      by_cases hlt : k < L.length
      · go_wp2_with fail
        refine (sAmounts_any _ c L _ hz (hA.same hs)).mono ?_
        rintro e w1 ⟨rfl, hs1⟩
        rw [H.out]
        obtain ⟨b, off, x, rfl, hc, HX, _⟩ := ((hA.same hs).same hs1).at_ hlt
        have hss := hs.trans hs1
        clear hA hs hs1
        obtain ⟨hR, hst, hp⟩ := And.intro (net_range H.out hk) (And.intro (sumBy_succ (g := netG) HX.out) (amountsOk_at H.out HX.out))
        obtain ⟨f0, f1, f2⟩ := x
        dsimp only at hp
        have c0 := hc 0 _ rfl
        have c1 := hc 1 _ rfl
        have c2 := hc 2 _ rfl
        simp only [Nat.add_zero] at c0
        clear hc
        clear HX
        obtain ⟨n, hn⟩ : ∃ n, n = sumBy netG L k := ⟨_, rfl⟩
        rw [← hn] at hst hR ⊢
        clear hn
        have HN := Lib.hid (show sumBy netG L (k + 1) = n + (f2 - f1) from hst)
        clear hst
        go_wp2
        go_quiet (fail)
        go_wp2
        go_roundw
        case rel => exact ⟨k + 1, hlt, by go_num, congrArg (Value.int .i64) (by have := HN.out; omega), hss.drewN _⟩
        case measure => simp [intOf]; omega
      · have hkl : k = L.length := by omega
        go_wp2
        go_ret
        exact ⟨ret_int (by rw [HF.out, hkl]), hs⟩
end Go.Proofs.Ytmpeohmhkhhooaa
