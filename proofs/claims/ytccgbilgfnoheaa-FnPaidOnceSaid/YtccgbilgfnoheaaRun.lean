/-
  Runs: RunOk.
-/
import Derived.Test.YtccgbilgfnoheaaItem
import Derived.BigQuiet
namespace Go.Proofs.Ytccgbilgfnoheaa
open Go.RowKit

theorem RecAt.take {T : Type} {s : Nat} {cells : T → List Value} {w : World} {A : Option Addr} {L : List T} (h : RecAt s cells w A L) (k : Nat) : RecAt s cells w A (L.take k) := by
  rcases h with h | ⟨b, off, h1, h2, h3⟩
  · exact .inl (by simp [h])
  · exact .inr ⟨b, off, h1, h2, fun j x hx => h3 j x (by
      have hj := (List.getElem?_eq_some_iff.1 hx).1
      simp at hj
      rw [List.getElem?_take_of_lt (by omega)] at hx
      exact hx)⟩

def hasM (L : List TItem) (m : Int) : Bool := L.any (fun o => o.1 == m)
def itemOk (x : TItem) : Bool := inB x.1 1 999 && inB x.2.1 0 10000000 && inB x.2.2 0 2
def itemAt (L : List TItem) (i : Nat) : Bool := match L[i]? with | some x => itemOk x && !hasM (L.take i) x.1 | none => true
def runOk (m : Int) (L : List TItem) : Bool := allTo (itemAt L) L.length && inB m 0 3599 && decide (L.length ≤ 40)
theorem itemAt_eq {L : List TItem} {i : Nat} {x : TItem} (hx : L[i]? = some x) : itemAt L i = (itemOk x && !hasM (L.take i) x.1) := by rw [itemAt, hx]
theorem runOk_not {m : Int} {L : List TItem} {k : Nat} (hk : k < L.length) (h : itemAt L k = false) : runOk m L = false := by
  rw [runOk, allTo_false h hk]; rfl
theorem hasM_yes {L : List TItem} {m : Int} {x : TItem} {k : Nat} (hx : L[k]? = some x) (h : (x.1 == m) = true) : hasM L m = true := List.any_eq_true.2 ⟨x, List.mem_of_getElem? hx, h⟩
theorem hasM_no {L : List TItem} {m : Int} (h : L.all (fun x => !(x.1 == m)) = true) : hasM L m = false := by
  rw [hasM, List.any_eq_false]
  intro x hx
  simpa using List.all_eq_true.1 h x hx

theorem sameMember_any (bb : Nat) (m f0 f1 f2 : Int) (w : World) (hb : w.cell? ⟨bb, 0, none⟩ = some (.int .i64 m)) :
    Calls Try.prog 61 #[.agg #[.int .i64 f0, .int .i64 f1, .int .i64 f2], .pointer (some ⟨bb, 0, none⟩)] w fun e w' => e = .returned (.bool (f0 == m)) ∧ Same w w' := by
  have hlt := World.block_lt_of_cell? w _ hb
  go_enter Try.func61, Try.ntmps61
  go_wp2
  all_goals go_ret
  all_goals exact ⟨by first | rfl | exact ret_bool (by simp; omega), (Same.refl w).alloc _⟩

set_option maxHeartbeats 400000 in
theorem indexMember_any (bb : Nat) (m : Int) (A : Option Addr) (c : Nat) (L : List TItem) (w : World) (hz : L.length ≤ 9223372036854775807) (hA : AtItem w A L) (hbl : bb < w.heap.size) (hb : w.cell? ⟨bb, 0, none⟩ = some (.int .i64 m)) :
    Calls Try.prog 57 #[.slice A L.length c, .func (.func 61) #[] #[.pointer (some ⟨bb, 0, none⟩)]] w fun e w' => ∃ r : Int, e = .returned (.int .i64 r) ∧ Found (fun x => ((fun y : TItem => y.1 == m) x)) L r ∧ Same w w' := by
  go_enter Try.func57, Try.ntmps57
  go_wp2
  go_loopw [8] (fun i wr => ∃ k : Nat, k ≤ L.length ∧ i = .int .i64 k ∧ Hid ((L.take k).all (fun x => !((fun y : TItem => y.1 == m) x)) = true) ∧ Same w wr) (fun i _ => L.length - (intOf i).toNat)
  case atStart => exact ⟨0, Nat.zero_le _, rfl, by simp [Hid], Same.refl _⟩
  case round =>
    obtain ⟨k, hk, rfl, hall, hs⟩ := hrel
    by_cases hlt : k < L.length
    · obtain ⟨b, off, x, rfl, hc, HX, _⟩ := (hA.same hs).at_ hlt
      clear hA
      obtain ⟨f0, f1, f2⟩ := x
      have c0 := hc 0 _ rfl
      have c1 := hc 1 _ rfl
      have c2 := hc 2 _ rfl
      simp only [Nat.add_zero] at c0
      clear hc
      have hbc := (hs.cell (p := ⟨bb, 0, none⟩) hbl).trans hb
      go_wp2_with fail
      refine (sameMember_any bb m f0 f1 f2 _ hbc).mono ?_
      rintro e w1 ⟨rfl, hs1⟩
      have hss := hs.trans hs1
      clear hs hs1
      cases hp : ((fun y : TItem => y.1 == m) (f0, f1, f2))
      · have HP := Lib.hid (all_take_succ hall.out HX.out (show (!((fun y : TItem => y.1 == m) (f0, f1, f2))) = true by rw [hp]; rfl))
        go_wp2
        go_roundw
        case rel => exact ⟨k + 1, hlt, by go_num, HP, hss⟩
        case measure => simp [intOf]; omega
      · have HP := Lib.hid (show Found (fun x => ((fun y : TItem => y.1 == m) x)) L k from .inr ⟨k, _, rfl, HX.out, hp, hall.out⟩)
        go_wp2
        go_ret
        exact ⟨_, rfl, HP.out, hss⟩
    · have hl := hall.out
      rw [show k = L.length by omega, List.take_length] at hl
      have HP := Lib.hid hl
      clear hl hall
      go_wp2
      go_ret
      exact ⟨_, rfl, .inl ⟨rfl, HP.out⟩, hs⟩

theorem containsMember_any (bb : Nat) (m : Int) (A : Option Addr) (c : Nat) (L : List TItem) (w : World) (hz : L.length ≤ 9223372036854775807) (hA : AtItem w A L) (hbl : bb < w.heap.size) (hb : w.cell? ⟨bb, 0, none⟩ = some (.int .i64 m)) :
    Calls Try.prog 60 #[.slice A L.length c, .func (.func 61) #[] #[.pointer (some ⟨bb, 0, none⟩)]] w fun e w' => e = .returned (.bool (hasM L m)) ∧ Same w w' := by
  go_enter Try.func60, Try.ntmps60
  go_wp2_with fail
  refine (indexMember_any bb m A c L _ hz hA hbl hb).mono ?_
  rintro e w1 ⟨r, rfl, hf, hs1⟩
  have HF := Lib.hid (show decide (0 ≤ r) = hasM L m from hf.any)
  clear hf
  go_wp2
  all_goals go_ret
  all_goals exact ⟨ret_bool (by first | exact HF.out | (rw [← HF.out]; simp; omega)), hs1⟩

set_option maxHeartbeats 2000000 in
theorem iRunOk_any (m : Int) (A : Option Addr) (c : Nat) (L : List TItem) (w : World) (hz : L.length ≤ 9223372036854775807) (hcap : L.length ≤ c) (hA : AtItem w A L) :
    Calls Try.prog 23 #[.agg #[.int .i64 m, .slice A L.length c]] w fun e w' => e = .returned (.bool (runOk m L)) ∧ Same w w' := by
  go_enter Try.func23, Try.ntmps23
  go_wp2
  have hb : BoxAt (w.alloc (.cells #[.int .i64 m, .slice A L.length c] 26)) (w.heap.size) 26 [.int .i64 m, .slice A L.length c] := by simpa using (BoxAt.new w 26 [.int .i64 m, .slice A L.length c])
  have hs0 := (Same.alloc (Same.refl w) (.cells #[.int .i64 m, .slice A L.length c] 26))
  generalize (w.alloc (.cells #[.int .i64 m, .slice A L.length c] 26)) = w0 at *
  go_loopw [8] (fun i wr => ∃ k : Nat, k ≤ L.length ∧ i = .int .i64 k ∧ Hid (allTo (itemAt L) k = true) ∧ Same w0 wr) (fun i _ => L.length - (intOf i).toNat)
  case atStart => exact ⟨0, Nat.zero_le _, rfl, rfl, Same.refl _⟩
  case round =>
    obtain ⟨k, hk, rfl, hall, hs⟩ := hrel
    have hbr := hb.same hs
    have c0 := hbr.cell 0 rfl
    have c1 := hbr.cell 1 rfl
    by_cases hlt : k < L.length
    · obtain ⟨b, off, x, rfl, hc, HX, _⟩ := ((hA.same hs0).same hs).at_ hlt
      obtain ⟨f0, f1, f2⟩ := x
      have HA := Lib.hid ((hA.same hs0).same hs)
      have HE := Lib.hid (itemAt_eq HX.out)
      have hlk : (L.take k).length = k := by simp; omega
      have hlw : w.heap.size < wr.heap.size := by have := hbr.lt; omega
      have q3 : (k : Int) ≤ (c : Int) := by omega
      clear hA hb hbr
      have e0 := hc 0 _ rfl
      have e1 := hc 1 _ rfl
      have e2 := hc 2 _ rfl
      simp only [Nat.add_zero] at e0
      clear hc
      cases m1 : inB f0 1 999
      · have HN := Lib.hid (runOk_not (m := m) hlt (by rw [HE.out]; simp [itemOk, m1]))
        go_wp2_with (go_at_call 59; refine (within_any _ _ _ _).mono ?_; rintro e w' ⟨rfl, rfl⟩)
        go_ret
        exact ⟨ret_bool HN.out.symm, hs0.trans (hs.alloc _)⟩
      · cases m2 : inB f1 0 10000000
        · have HN := Lib.hid (runOk_not (m := m) hlt (by rw [HE.out]; simp [itemOk, m2]))
          go_wp2_with (go_at_call 59; refine (within_any _ _ _ _).mono ?_; rintro e w' ⟨rfl, rfl⟩)
          go_ret
          exact ⟨ret_bool HN.out.symm, hs0.trans (hs.alloc _)⟩
        · cases m3 : inB f2 0 2
          · have HN := Lib.hid (runOk_not (m := m) hlt (by rw [HE.out]; simp [itemOk, m3]))
            go_wp2_with (go_at_call 59; refine (within_any _ _ _ _).mono ?_; rintro e w' ⟨rfl, rfl⟩)
            go_ret
            exact ⟨ret_bool HN.out.symm, hs0.trans (hs.alloc _)⟩
          · have hx := BoxAt.new wr 41 [.int .i64 f0, .int .i64 f1, .int .i64 f2]
            have hcc := containsMember_any wr.heap.size f0 (some ⟨b, off, none⟩) c (L.take k) _ (by omega) ((HA.out.take k).same ((Same.refl wr).alloc (.cells #[.int .i64 f0, .int .i64 f1, .int .i64 f2] 41))) (by simp) (hx.cell 0 rfl)
            rw [hlk] at hcc
            cases m4 : hasM (L.take k) f0
            · have HP := Lib.hid (show allTo (itemAt L) (k + 1) = true by rw [allTo, hall.out, HE.out]; simp [itemOk, m1, m2, m3, m4])
              rw [m4] at hcc
              have HC := Lib.hid hcc
              clear hcc hx m4
              go_wp2_with (first | (go_at_call 59; refine (within_any _ _ _ _).mono ?_; rintro e w' ⟨rfl, rfl⟩) | fail)
              refine HC.out.mono ?_
              rintro e w1 ⟨rfl, hs1⟩
              go_wp2
              go_roundw
              case rel => exact ⟨k + 1, hlt, by go_num, HP, (hs.alloc _).trans hs1⟩
              case measure => simp [intOf]; omega
            · have HN := Lib.hid (runOk_not (m := m) hlt (by rw [HE.out]; simp [itemOk, m4]))
              rw [m4] at hcc
              have HC := Lib.hid hcc
              clear hcc hx m4
              go_wp2_with (first | (go_at_call 59; refine (within_any _ _ _ _).mono ?_; rintro e w' ⟨rfl, rfl⟩) | fail)
              refine HC.out.mono ?_
              rintro e w1 ⟨rfl, hs1⟩
              go_wp2
              go_ret
              exact ⟨ret_bool HN.out.symm, hs0.trans ((hs.alloc _).trans hs1)⟩
    · have HE := Lib.hid (show runOk m L = (inB m 0 3599 && decide (L.length ≤ 40)) by rw [runOk, show L.length = k by omega, hall.out]; rfl)
      cases m1 : inB m 0 3599
      · go_wp2_with (go_at_call 62; refine (iMonthOk_any _ _).mono ?_; rintro e w' ⟨rfl, rfl⟩)
        go_ret
        exact ⟨ret_bool (by rw [HE.out, m1]; rfl), hs0.trans hs⟩
      · go_wp2_with (go_at_call 62; refine (iMonthOk_any _ _).mono ?_; rintro e w' ⟨rfl, rfl⟩)
        all_goals go_ret
        all_goals exact ⟨ret_bool (by rw [HE.out, m1]; simp; try omega), hs0.trans hs⟩
end Go.Proofs.Ytccgbilgfnoheaa
