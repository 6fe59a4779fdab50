/-
  The contracts of NetAmounts.
-/
import Derived.Test.YtmpeohmhkhhooaaRecov
import Derived.Test.YtmpeohmhkhhooaaAcc
import Derived.Deep.RegionHeld3
namespace Go.Proofs.Ytmpeohmhkhhooaa
open Go.RowKit

theorem keep2 {w1 w' : World} {p q : Addr} {x y : Value} (h : Same w1 w') (hp : p.block < w1.heap.size) (hq : q.block < w1.heap.size) (cp : w1.cell? p = some x) (cq : w1.cell? q = some y) :
    Same w1 w' ∧ w'.cell? p = some x ∧ w'.cell? q = some y := ⟨h, (h.cell hp).trans cp, (h.cell hq).trans cq⟩

set_option maxHeartbeats 2000000 in
theorem sNetAmounts_any (debt : Int) (A : Option Addr) (c : Nat) (zs : List Int) (pct : Int) (w : World) (hz : zs.length ≤ 9223372036854775807) (hA : IntsAt w A zs) :
    Calls Try.prog 28 #[.int .i64 debt, .slice A zs.length c, .int .i64 pct] w fun e w' => RetI w (netAmounts debt zs pct) e w' := by
  obtain ⟨P, hP⟩ : ∃ P, P = plan debt zs pct := ⟨_, rfl⟩
  have hPl : P.length ≤ zs.length ∧ P.length ≤ 600 := by rw [hP]; exact plan_short _ _ _
  have HF := Lib.hid (show netAmounts debt zs pct = netTo zs P P.length by rw [hP]; rfl)
  have HR := Lib.hid (show ∀ (k : Nat) (x y : Int), P[k]? = some x → zs[k]? = some y → (0 ≤ x ∧ x ≤ 10000000) ∧ (0 ≤ y ∧ y ≤ 10000000) by rw [hP]; exact plan_facts debt zs pct)
  have HQ := Lib.hid hP
  clear hP
  go_enter Try.func28, Try.ntmps28
  go_wp2_with fail
  have he := OwnI.empty w (Nat.le_refl _)
  have hs0 := (Same.refl w).alloc (.cells #[] 3)
  generalize w.alloc (.cells #[] 3) = w0 at *
  refine (sPlan_any debt A c zs pct _ hz (hA.same hs0)).mono ?_
  rw [← HQ.out]
  rintro e w1 ⟨B, d, rfl, ho, hs1⟩
  have hB := ho.ints
  have S1 := hs0.trans hs1
  replace he := he.same hs1
  replace hA := hA.same S1
  have hsz := S1.size
  clear hs0 hs1 ho
  go_wp2
  go_loopw [7, 9] (fun o i wr => ∃ k : Nat, k ≤ P.length ∧ i = .int .i64 k ∧ AccI wr w.heap.size w1.heap.size o (netTo zs P k) ∧ Same w1 wr) (fun _ i _ => P.length - (intOf i).toNat)
  case atStart => exact ⟨0, Nat.zero_le _, rfl, AccI.empty he, Same.refl _⟩
  case round =>
    obtain ⟨k, hk, rfl, hown, hs⟩ := hrel
    by_cases hlt : k < P.length
    · obtain ⟨b, off, x, rfl, c1, HX, hb⟩ := hB.at_ hlt
      obtain ⟨b', off', y, rfl, c2, HY, hb'⟩ := hA.at_ (k := k) (by omega)
      have hc1 := (hs.cell (p := ⟨b, off + k, none⟩) hb).trans c1
      have hc2 := (hs.cell (p := ⟨b', off' + k, none⟩) hb').trans c2
      have HN := Lib.hid (netTo_succ HY.out HX.out)
      obtain ⟨⟨x0, x1⟩, y0, y1⟩ := HR.out k x y HX.out HY.out
      have hl' : (netTo zs P k).length ≤ 1000000000 := by rw [netTo_length]; omega
      have hsr := hs.size
      have q0 : (0 : Int) ≤ (k : Int) := by omega
      have q1 : (k : Int) < (P.length : Int) := by omega
      have q2 : (k : Int) < (zs.length : Int) := by omega
      have k1 : IntKind.i64.wrap (y - x) = y - x := IntWalk.i64_in _ (by omega)
      clear hA hB he
      go_wp2
      go_region_held3 (fun w' => Same w1 w' ∧ w'.cell? ⟨b, off + k, none⟩ = some (.int .i64 x) ∧ w'.cell? ⟨b', off' + k, none⟩ = some (.int .i64 y)) (first | exact keep2 hs.drew hb hb' c1 c2 | exact keep2 (hs.alloc _).drew hb hb' c1 c2 | (go_split_ands; exact keep2 (by assumption) hb hb' c1 c2)) ((refine stepAccI _ (by rfl) (.tmp 21) (.tmp 31) (by rfl) w.heap.size w1.heap.size _ (netTo zs P k) (by rfl) ((hown.alloc _).same ((Same.refl _).drew)) wr.heap.size 1 (y - x) (by rfl) (cells_new1 _ _ _) hl' hsz (by simp; omega) ?_; intro v' w3 ho3 hup; have hs3 := ((hs.alloc _).drew).upds hup (Nat.le_refl _)))
      go_wp2
      go_roundw
      case rel => exact ⟨k + 1, hlt, by go_num, by rw [HN.out]; exact ho3, hs3⟩
      case measure => simp [intOf]; omega
    · go_wp2
      go_ret
      rw [HF.out, show P.length = k by omega]
      exact RetI.of hown.own (S1.trans hs)

set_option maxHeartbeats 2000000 in
theorem iNetAmounts_any (debt : Int) (A : Option Addr) (c : Nat) (zs : List Int) (pct : Int) (w : World) (hz : zs.length ≤ 9223372036854775807) (hA : IntsAt w A zs) :
    Calls Try.prog 29 #[.int .i64 debt, .slice A zs.length c, .int .i64 pct] w fun e w' => RetI w (netAmounts debt zs pct) e w' := by
  obtain ⟨P, hP⟩ : ∃ P, P = plan debt zs pct := ⟨_, rfl⟩
  have hPl : P.length ≤ zs.length ∧ P.length ≤ 600 := by rw [hP]; exact plan_short _ _ _
  have HF := Lib.hid (show netAmounts debt zs pct = netTo zs P P.length by rw [hP]; rfl)
  have HR := Lib.hid (show ∀ (k : Nat) (x y : Int), P[k]? = some x → zs[k]? = some y → (0 ≤ x ∧ x ≤ 10000000) ∧ (0 ≤ y ∧ y ≤ 10000000) by rw [hP]; exact plan_facts debt zs pct)
  have HQ := Lib.hid hP
  clear hP
  go_enter Try.func29, Try.ntmps29
  go_wp2_with fail
  have he := OwnI.empty w (Nat.le_refl _)
  have hs0 := (Same.refl w).alloc (.cells #[] 3)
  generalize w.alloc (.cells #[] 3) = w0 at *
  refine (iPlan_any debt A c zs pct _ hz (hA.same hs0)).mono ?_
  rw [← HQ.out]
  rintro e w1 ⟨B, d, rfl, ho, hs1⟩
  have hB := ho.ints
  have S1 := hs0.trans hs1
  replace he := he.same hs1
  replace hA := hA.same S1
  have hsz := S1.size
  clear hs0 hs1 ho
  go_wp2
  go_loopw [7, 16] (fun o i wr => ∃ k : Nat, k ≤ P.length ∧ i = .int .i64 k ∧ AccI wr w.heap.size w1.heap.size o (netTo zs P k) ∧ Same w1 wr) (fun _ i _ => P.length - (intOf i).toNat)
  case atStart => exact ⟨0, Nat.zero_le _, rfl, AccI.empty he, Same.refl _⟩
  case round =>
    obtain ⟨k, hk, rfl, hown, hs⟩ := hrel
    by_cases hlt : k < P.length
    · obtain ⟨b, off, x, rfl, c1, HX, hb⟩ := hB.at_ hlt
      obtain ⟨b', off', y, rfl, c2, HY, hb'⟩ := hA.at_ (k := k) (by omega)
      have hc1 := (hs.cell (p := ⟨b, off + k, none⟩) hb).trans c1
      have hc2 := (hs.cell (p := ⟨b', off' + k, none⟩) hb').trans c2
      have HN := Lib.hid (netTo_succ HY.out HX.out)
      obtain ⟨⟨x0, x1⟩, y0, y1⟩ := HR.out k x y HX.out HY.out
      have hl' : (netTo zs P k).length ≤ 1000000000 := by rw [netTo_length]; omega
      have hsr := hs.size
      have q0 : (0 : Int) ≤ (k : Int) := by omega
      have q1 : (k : Int) < (P.length : Int) := by omega
      have q2 : (k : Int) < (zs.length : Int) := by omega
      have k1 : IntKind.i64.wrap (y - x) = y - x := IntWalk.i64_in _ (by omega)
      clear hA hB he
      go_wp2_with (at_builtin; refine wpList_of rfl fun _ hK => wp_accI _ (.tmp 21) (.tmp 28) rfl w.heap.size w1.heap.size _ _ rfl (hown.alloc _) wr.heap.size 1 (y - x) rfl (by simp) hl' hsz (by simp; omega) (fun v' w3 ho3 hup => hK _ _ ?_))
      have hs3 := (hs.alloc _).upds hup (Nat.le_refl _)
      clear hup
      go_wp2
      go_roundw
      case rel => exact ⟨k + 1, hlt, by go_num, by rw [HN.out]; exact ho3, hs3⟩
      case measure => simp [intOf]; omega
    · go_wp2
      go_ret
      rw [HF.out, show P.length = k by omega]
      exact RetI.of hown.own (S1.trans hs)
end Go.Proofs.Ytmpeohmhkhhooaa
