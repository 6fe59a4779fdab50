/-
  The balance of an account.
-/
import Derived.Test.YthelclibokkdnaaLedger
namespace Go.Proofs.Ythelclibokkdnaa
open Go.RowKit

def postAt (a m : Int) (p : TPosting) : Int := if m < p.1 then 0 else (if p.2.1 = a then p.2.2.2 else 0) - (if p.2.2.1 = a then p.2.2.2 else 0)
def balTo (L : List TPosting) (a m : Int) : Nat → Int
  | 0 => 0
  | k + 1 => balTo L a m k + (match L[k]? with | some p => postAt a m p | none => 0)
theorem balTo_succ {L : List TPosting} {a m : Int} {k : Nat} {p : TPosting} (h : L[k]? = some p) : balTo L a m (k + 1) = balTo L a m k + postAt a m p := by
  rw [balTo, h]
theorem ledgerOk_at {L : List TPosting} (h : ledgerOk L = true) {k : Nat} {p : TPosting} (hp : L[k]? = some p) : postingOk p = true := by
  rw [ledgerOk, Bool.and_eq_true] at h
  exact List.all_eq_true.1 h.2 p (List.mem_of_getElem? hp)
theorem ledgerOk_len {L : List TPosting} (h : ledgerOk L = true) : L.length ≤ 300 := by
  rw [ledgerOk, Bool.and_eq_true, decide_eq_true_eq] at h
  exact h.1
theorem postAt_range {a m : Int} {p : TPosting} (h : postingOk p = true) : -1000000000 ≤ postAt a m p ∧ postAt a m p ≤ 1000000000 := by
  obtain ⟨m', d, c, z⟩ := p
  have := postingOk_iff.1 h
  simp only [postAt]
  split
  · omega
  · split <;> split <;> omega
theorem balTo_range {L : List TPosting} {a m : Int} (h : ledgerOk L = true) : ∀ k, k ≤ L.length → -(1000000000 * (k : Int)) ≤ balTo L a m k ∧ balTo L a m k ≤ 1000000000 * (k : Int)
  | 0, _ => by simp [balTo]
  | k + 1, hk => by
    obtain ⟨p, hp⟩ : ∃ p, L[k]? = some p := ⟨_, List.getElem?_eq_getElem (by omega)⟩
    have h1 := balTo_range (a := a) (m := m) h k (by omega)
    have h2 := postAt_range (a := a) (m := m) (ledgerOk_at h hp)
    rw [balTo_succ hp]
    omega
def balance (L : List TPosting) (a m : Int) : Int := if ledgerOk L = true then balTo L a m L.length else 0
theorem balance_range (L : List TPosting) (a m : Int) : -300000000000 ≤ balance L a m ∧ balance L a m ≤ 300000000000 := by
  unfold balance
  split
  · rename_i h
    have := balTo_range (a := a) (m := m) h L.length (Nat.le_refl _)
    have := ledgerOk_len h
    omega
  · omega

set_option maxHeartbeats 2000000 in
theorem sBal_any (A : Option Addr) (c : Nat) (L : List TPosting) (a m : Int) (w : World) (hok : ledgerOk L = true) (hA : AtPosting w A L) :
    Calls Try.prog 68 #[.agg #[.slice A L.length c], .int .i64 a, .int .i64 m] w fun e w' => e = .returned (.int .i64 (balTo L a m L.length)) ∧ Same w w' := by
  have hlen := ledgerOk_len hok
  go_enter Try.func68, Try.ntmps68
  go_wp2
  have hb := BoxAt.new w 38 [.slice A L.length c]
  have hs0 := (Same.refl w).alloc (.cells #[.slice A L.length c] 38)
  generalize w.alloc (.cells #[.slice A L.length c] 38) = w0 at *
  go_loopw [7, 8] (fun n i wr => ∃ k : Nat, k ≤ L.length ∧ i = .int .i64 k ∧ n = .int .i64 (balTo L a m k) ∧ Same w0 wr) (fun _ i _ => L.length - (intOf i).toNat)
  case atStart => exact ⟨0, Nat.zero_le _, rfl, rfl, Same.refl _⟩
  case round =>
    obtain ⟨k, hk, rfl, rfl, hs⟩ := hrel
    replace hb := hb.same hs
    have b0 := hb.cell 0 rfl
    clear hb
    by_cases hlt : k < L.length
    · obtain ⟨b, off, x, rfl, hc, HX, _⟩ := ((hA.same hs0).same hs).at_ hlt
      clear hA
      have hr1 := balTo_range (a := a) (m := m) hok k hk
      have hst := balTo_succ (a := a) (m := m) HX.out
      have hp := ledgerOk_at hok HX.out
      obtain ⟨f0, f1, f2, f3⟩ := x
      rw [postingOk_iff] at hp
      obtain ⟨_, _, _, hdc, hz0, hz1⟩ := hp
      have c0 := hc 0 _ rfl
      have c1 := hc 1 _ rfl
      have c2 := hc 2 _ rfl
      have c3 := hc 3 _ rfl
      simp only [Nat.add_zero] at c0
      clear hc
      clear HX
      obtain ⟨n, hn⟩ : ∃ n, n = balTo L a m k := ⟨_, rfl⟩
      rw [← hn] at hst hr1 ⊢
      clear hn
      by_cases hm : m < f0
      · have HN := Lib.hid (show balTo L a m (k + 1) = n by rw [hst]; simp [postAt, hm])
        clear hst
        go_wp2
        go_roundw
        case rel => exact ⟨k + 1, hlt, by go_num, by rw [HN.out], hs.alloc _⟩
        case measure => simp [intOf]; omega
      · by_cases h1 : f1 = a
        · have h2 : ¬ f2 = a := fun e => hdc (h1.trans e.symm)
          have HN := Lib.hid (show balTo L a m (k + 1) = n + f3 by rw [hst]; simp [postAt, hm, h1, h2])
          have q1 : (f1 == a) = true := by simp [h1]
          have q2 : (f2 == a) = false := by simp [h2]
          clear hst h1 h2 hdc
          go_wp2
          go_roundw
          case rel => exact ⟨k + 1, hlt, by go_num, by rw [HN.out], hs.alloc _⟩
          case measure => simp [intOf]; omega
        · by_cases h2 : f2 = a
          · have HN := Lib.hid (show balTo L a m (k + 1) = n - f3 by rw [hst]; simp [postAt, hm, h1, h2]; omega)
            have q1 : (f1 == a) = false := by simp [h1]
            have q2 : (f2 == a) = true := by simp [h2]
            clear hst h1 h2 hdc
            go_wp2
            go_roundw
            case rel => exact ⟨k + 1, hlt, by go_num, by rw [HN.out], hs.alloc _⟩
            case measure => simp [intOf]; omega
          · have HN := Lib.hid (show balTo L a m (k + 1) = n by rw [hst]; simp [postAt, hm, h1, h2])
            have q1 : (f1 == a) = false := by simp [h1]
            have q2 : (f2 == a) = false := by simp [h2]
            clear hst h1 h2 hdc
            go_wp2
            go_roundw
            case rel => exact ⟨k + 1, hlt, by go_num, by rw [HN.out], hs.alloc _⟩
            case measure => simp [intOf]; omega
    · have hkl : k = L.length := by omega
      go_wp2
      go_ret
      exact ⟨ret_int (by rw [hkl]), hs0.trans hs⟩

set_option maxHeartbeats 2000000 in
theorem iBal_any (A : Option Addr) (c : Nat) (L : List TPosting) (a m : Int) (w : World) (hz : L.length ≤ 9223372036854775807) (hA : AtPosting w A L) :
    Calls Try.prog 33 #[.agg #[.slice A L.length c], .int .i64 a, .int .i64 m] w fun e w' => e = .returned (.int .i64 (balance L a m)) ∧ Same w w' := by
  cases hok : ledgerOk L
  · go_enter Try.func33, Try.ntmps33
    go_wp2_with fail
    refine (iLedgerOk_any A c L _ hz (hA.same ((Same.refl w).alloc _))).mono ?_
    rintro e w1 ⟨rfl, hs1⟩
    rw [hok]
    go_wp2
    go_ret
    exact ⟨ret_int (by simp [balance, hok]), ((Same.refl w).alloc _).trans hs1⟩
  have hlen := ledgerOk_len hok
  go_enter Try.func33, Try.ntmps33
  go_wp2_with fail
  have hb := BoxAt.new w 38 [.slice A L.length c]
  refine (iLedgerOk_any A c L _ hz (hA.same ((Same.refl w).alloc _))).mono ?_
  rintro e w0 ⟨rfl, hs1⟩
  have hs0 := ((Same.refl w).alloc (.cells #[.slice A L.length c] 38)).trans hs1
  replace hb := hb.same hs1
  clear hs1
  rw [hok]
  have b0 := hb.cell 0 rfl
  go_wp2
  clear b0
  go_loopw [7, 16] (fun n i wr => ∃ k : Nat, k ≤ L.length ∧ i = .int .i64 k ∧ n = .int .i64 (balTo L a m k) ∧ Same w0 wr) (fun _ i _ => L.length - (intOf i).toNat)
  case atStart => exact ⟨0, Nat.zero_le _, rfl, rfl, Same.refl _⟩
  case round =>
    obtain ⟨k, hk, rfl, rfl, hs⟩ := hrel
    replace hb := hb.same hs
    have b0 := hb.cell 0 rfl
    clear hb
    by_cases hlt : k < L.length
    · obtain ⟨b, off, x, rfl, hc, HX, _⟩ := ((hA.same hs0).same hs).at_ hlt
      clear hA
      have hr1 := balTo_range (a := a) (m := m) hok k hk
      have hst := balTo_succ (a := a) (m := m) HX.out
      have hp := ledgerOk_at hok HX.out
      obtain ⟨f0, f1, f2, f3⟩ := x
      rw [postingOk_iff] at hp
      obtain ⟨_, _, _, hdc, hz0, hz1⟩ := hp
      have c0 := hc 0 _ rfl
      have c1 := hc 1 _ rfl
      have c2 := hc 2 _ rfl
      have c3 := hc 3 _ rfl
      simp only [Nat.add_zero] at c0
      clear hc
      clear HX
      obtain ⟨n, hn⟩ : ∃ n, n = balTo L a m k := ⟨_, rfl⟩
      rw [← hn] at hst hr1 ⊢
      clear hn
      by_cases hm : m < f0
      · have HN := Lib.hid (show balTo L a m (k + 1) = n by rw [hst]; simp [postAt, hm])
        clear hst
        go_wp2
        go_roundw
        case rel => exact ⟨k + 1, hlt, by go_num, by rw [HN.out], hs.alloc _⟩
        case measure => simp [intOf]; omega
      · by_cases h1 : f1 = a
        · have h2 : ¬ f2 = a := fun e => hdc (h1.trans e.symm)
          have HN := Lib.hid (show balTo L a m (k + 1) = n + f3 by rw [hst]; simp [postAt, hm, h1, h2])
          have q1 : (f1 == a) = true := by simp [h1]
          have q2 : (f2 == a) = false := by simp [h2]
          clear hst h1 h2 hdc
          go_wp2
          go_roundw
          case rel => exact ⟨k + 1, hlt, by go_num, by rw [HN.out], hs.alloc _⟩
          case measure => simp [intOf]; omega
        · by_cases h2 : f2 = a
          · have HN := Lib.hid (show balTo L a m (k + 1) = n - f3 by rw [hst]; simp [postAt, hm, h1, h2]; omega)
            have q1 : (f1 == a) = false := by simp [h1]
            have q2 : (f2 == a) = true := by simp [h2]
            clear hst h1 h2 hdc
            go_wp2
            go_roundw
            case rel => exact ⟨k + 1, hlt, by go_num, by rw [HN.out], hs.alloc _⟩
            case measure => simp [intOf]; omega
          · have HN := Lib.hid (show balTo L a m (k + 1) = n by rw [hst]; simp [postAt, hm, h1, h2])
            have q1 : (f1 == a) = false := by simp [h1]
            have q2 : (f2 == a) = false := by simp [h2]
            clear hst h1 h2 hdc
            go_wp2
            go_roundw
            case rel => exact ⟨k + 1, hlt, by go_num, by rw [HN.out], hs.alloc _⟩
            case measure => simp [intOf]; omega
    · have hkl : k = L.length := by omega
      go_wp2
      go_ret
      exact ⟨ret_int (by rw [balance, if_pos hok, hkl]), hs0.trans hs⟩

set_option maxHeartbeats 400000 in
theorem sAccount_any (A : Option Addr) (c : Nat) (L : List TPosting) (a m : Int) (w : World) (hz : L.length ≤ 9223372036854775807) (hA : AtPosting w A L) :
    Calls Try.prog 32 #[.agg #[.slice A L.length c], .int .i64 a, .int .i64 m] w fun e w' => e = .returned (.int .i64 (balance L a m)) ∧ Same w w' := by
  cases hok : ledgerOk L
  · go_enter Try.func32, Try.ntmps32
    go_wp2_with fail
    refine (sLedgerOk_any A c L _ hz (hA.same ((Same.refl w).alloc _))).mono ?_
    rintro e w1 ⟨rfl, hs1⟩
    rw [hok]
    go_wp2
    go_ret
    exact ⟨ret_int (by simp [balance, hok]), ((Same.refl w).alloc _).trans hs1⟩
  · go_enter Try.func32, Try.ntmps32
    go_wp2_with fail
    have hb := BoxAt.new w 38 [.slice A L.length c]
    refine (sLedgerOk_any A c L _ hz (hA.same ((Same.refl w).alloc _))).mono ?_
    rintro e w1 ⟨rfl, hs1⟩
    rw [hok]
    have b0 := (hb.same hs1).cell 0 rfl
    have S1 := ((Same.refl w).alloc (.cells #[.slice A L.length c] 38)).trans hs1
    go_wp2_with fail
    refine (sBal_any A c L a m _ hok (hA.same S1)).mono ?_
    rintro e w2 ⟨rfl, hs2⟩
    go_wp2_with fail
    go_ret
    exact ⟨ret_int (by simp [balance, hok]), S1.trans hs2⟩
end Go.Proofs.Ythelclibokkdnaa
