/-
  The value of a series at a month.
-/
import Derived.Test.YtjfmknhnplefnaaGreatZSeriesOk
import Derived.Test.YtjfmknhnplefnaaGreatZPlain
namespace Go.Proofs.YtjfmknhnplefnaaGreat
open Go.RowKit
set_option linter.unusedVariables false

theorem ixTo_succ {P : List TPoint} {k : Nat} {a b v : Int} (m known : Int) (h : P[k]? = some (a, b, v)) : ixTo P m known (k + 1) =
    if (decide (a ≤ m) && decide (b ≤ known) && (decide (ixTo P m known k < 0) || decide ((P.getD (ixTo P m known k).toNat (0, 0, 0)).1 ≤ a))) = true then (k : Int) else ixTo P m known k := by
  have e : P.getD k (0, 0, 0) = (a, b, v) := by simp [List.getD, h]
  show (if (decide ((P.getD k (0, 0, 0)).1 ≤ m) && decide ((P.getD k (0, 0, 0)).2.1 ≤ known) && (decide (ixTo P m known k < 0) || decide ((P.getD (ixTo P m known k).toNat (0, 0, 0)).1 ≤ (P.getD k (0, 0, 0)).1))) = true then (k : Int) else ixTo P m known k) = _
  rw [e]

set_option maxRecDepth 10000 in
set_option maxHeartbeats 4000000 in
theorem sIndexAt_any (A : Option Addr) (c : Nat) (P : List TPoint) (m known : Int) (w : World) (hz : P.length ≤ 1048576) (hA : AtPoint w A P) :
    Calls Tryz.prog 176 #[.agg #[.slice A P.length c], .int .i64 m, .int .i64 known] w fun e w' => e = .returned (.tuple #[.int .i64 (indexAt P m known).1, .bool (indexAt P m known).2]) ∧ Same w w' := by
  go_enter Tryz.func176, Tryz.ntmps176
  go_wp2
  have h1 : BoxAt (w.alloc (.cells #[.slice A P.length c] 32)) (w.heap.size) 32 [.slice A P.length c] := by simpa using (BoxAt.new w 32 [.slice A P.length c])
  have hs0 := (Same.alloc (Same.refl w) (.cells #[.slice A P.length c] 32))
  generalize (w.alloc (.cells #[.slice A P.length c] 32)) = w0 at *
  have hA0 := hA.same hs0
  have hl0 := h1.lt
  go_loopw [8, 9] (fun t8 i wr => ∃ k : Nat, k ≤ P.length ∧ i = .int .i64 k ∧ t8 = .int .i64 (ixTo P m known k) ∧ Same w0 wr) (fun _ i _ => P.length - (intOf i).toNat)
  case atStart => exact ⟨0, Nat.zero_le _, rfl, rfl, Same.refl _⟩
  case round =>
    obtain ⟨k, hk, rfl, rfl, hs⟩ := hrel
    by_cases hlt : k < P.length
    · have hb := h1.same hs
      have b0 := hb.cell 0 rfl
      have hbl0 := hb.lt
      obtain ⟨b, off, x, rfl, hc, HX, hbl⟩ := (hA0.same hs).at_ hlt
      obtain ⟨f0, f1, f2⟩ := x
      have hbs := ixTo_succ m known HX.out
      have hbr := ixTo_range P m known k
      obtain ⟨bb, hbb⟩ : ∃ bb, bb = ixTo P m known k := ⟨_, rfl⟩
      rw [← hbb] at hbs hbr ⊢
      have HBS : Hid _ := Lib.hid hbs
      have d0 := hc 0 _ rfl
      have d1 := hc 1 _ rfl
      have d2 := hc 2 _ rfl
      simp only [Nat.add_zero] at d0 d1 d2
      clear hc HX hbb hbs h1
      by_cases e2 : f0 ≤ m
      · by_cases e3 : f1 ≤ known
        · by_cases e5 : bb < 0
          · have HT := Lib.hid (show ixTo P m known (k + 1) = (k : Int) by rw [HBS.out]; simp [e2, e3, e5])
            have g1 : decide (f0 ≤ m) = true := by simp [e2]
            have g2 : decide (f1 ≤ known) = true := by simp [e3]
            have g4 : decide (bb < 0) = true := by simp [e5]
            go_wp2
            go_quiet (fail)
            go_wp2
            go_roundw
            case rel => exact ⟨k + 1, hlt, by go_num, by rw [HT.out], (hs.alloc _).drewN _⟩
            case measure => simp [intOf]; omega
          · obtain ⟨bn, hbn⟩ : ∃ bn : Nat, bb = bn := ⟨bb.toNat, by omega⟩
            subst hbn
            obtain ⟨b', off', y, hbe, hc2, HY, _⟩ := (hA0.same hs).at_ (show bn < P.length by omega)
            injection hbe with hbe
            injection hbe with hb1 hb2
            subst hb1 hb2
            obtain ⟨y0, y1, y2⟩ := y
            have rk := hc2 0 _ rfl
            have HG : (P.getD ((bn : Int).toNat) (0, 0, 0)).1 = y0 := by simp [List.getD, HY.out]
            rw [HG] at HBS
            simp only [Nat.add_zero] at rk
            clear hc2 HY HG
            have q4 : (0 : Int) ≤ (bn : Int) := by omega
            have q5 : (bn : Int) < (P.length : Int) := by omega
            by_cases e6 : y0 ≤ f0
            · have HT := Lib.hid (show ixTo P m known (k + 1) = (k : Int) by rw [HBS.out]; simp [e2, e3, e5, e6])
              have g1 : decide (f0 ≤ m) = true := by simp [e2]
              have g2 : decide (f1 ≤ known) = true := by simp [e3]
              have g4 : decide ((bn : Int) < 0) = false := by simp
              have g5 : decide (y0 ≤ f0) = true := by simp [e6]
              go_wp2
              go_quiet (fail)
              go_wp2
              go_roundw
              case rel => exact ⟨k + 1, hlt, by go_num, by rw [HT.out], (hs.alloc _).drewN _⟩
              case measure => simp [intOf]; omega
            · have HT := Lib.hid (show ixTo P m known (k + 1) = (bn : Int) by rw [HBS.out]; simp [e2, e3, e5, e6])
              have g1 : decide (f0 ≤ m) = true := by simp [e2]
              have g2 : decide (f1 ≤ known) = true := by simp [e3]
              have g4 : decide ((bn : Int) < 0) = false := by simp
              have g5 : decide (y0 ≤ f0) = false := by simp; omega
              go_wp2
              go_quiet (fail)
              go_wp2
              go_roundw
              case rel => exact ⟨k + 1, hlt, by go_num, by rw [HT.out], (hs.alloc _).drewN _⟩
              case measure => simp [intOf]; omega
        · have HT := Lib.hid (show ixTo P m known (k + 1) = bb by rw [HBS.out]; simp [e2, e3])
          have g1 : decide (f0 ≤ m) = true := by simp [e2]
          have g2 : decide (f1 ≤ known) = false := by simp; omega
          go_wp2
          go_quiet (fail)
          go_wp2
          go_roundw
          case rel => exact ⟨k + 1, hlt, by go_num, by rw [HT.out], (hs.alloc _).drewN _⟩
          case measure => simp [intOf]; omega
      · have HT := Lib.hid (show ixTo P m known (k + 1) = bb by rw [HBS.out]; simp [e2])
        have g1 : decide (f0 ≤ m) = false := by simp; omega
        go_wp2
        go_quiet (fail)
        go_wp2
        go_roundw
        case rel => exact ⟨k + 1, hlt, by go_num, by rw [HT.out], (hs.alloc _).drewN _⟩
        case measure => simp [intOf]; omega
    · obtain rfl : k = P.length := by omega
      have hb := h1.same hs
      have b0 := hb.cell 0 rfl
      have hbr := ixTo_range P m known P.length
      have HR := Lib.hid (show indexAt P m known = if ixTo P m known P.length < 0 then (0, false) else ((P.getD (ixTo P m known P.length).toNat (0, 0, 0)).2.2, true) from rfl)
      obtain ⟨bb, hbb⟩ : ∃ bb, bb = ixTo P m known P.length := ⟨_, rfl⟩
      rw [← hbb] at HR hbr ⊢
      clear hbb
      by_cases e5 : bb < 0
      · have HV := Lib.hid (show indexAt P m known = (0, false) by rw [HR.out]; simp [e5])
        go_wp2
        go_ret2
        exact ⟨by rw [HV.out]; rfl, hs0.trans hs⟩
      · obtain ⟨bn, hbn⟩ : ∃ bn : Nat, bb = bn := ⟨bb.toNat, by omega⟩
        subst hbn
        obtain ⟨b', off', y, rfl, hc2, HY, _⟩ := (hA0.same hs).at_ (show bn < P.length by omega)
        obtain ⟨y0, y1, y2⟩ := y
        have HV := Lib.hid (show indexAt P m known = (y2, true) by rw [HR.out]; simp [e5, List.getD, HY.out])
        have rk := hc2 2 _ rfl
        clear hc2 HY HR
        have q5 : (bn : Int) < (P.length : Int) := by omega
        go_wp2
        go_ret2
        exact ⟨by rw [HV.out]; rfl, hs0.trans hs⟩

set_option maxRecDepth 10000 in
set_option maxHeartbeats 4000000 in
theorem iIndexAt_any (A : Option Addr) (c : Nat) (P : List TPoint) (m known : Int) (w : World) (hz : P.length ≤ 1048576) (hA : AtPoint w A P) :
    Calls Tryz.prog 118 #[.agg #[.slice A P.length c], .int .i64 m, .int .i64 known] w fun e w' => e = .returned (.tuple #[.int .i64 (indexAt P m known).1, .bool (indexAt P m known).2]) ∧ Same w w' := by
  go_enter Tryz.func118, Tryz.ntmps118
  go_wp2
  have h1 : BoxAt ((w.alloc (.cells #[.slice A P.length c] 32)).alloc (.cells #[.int .i64 0, .int .i64 0, .int .i64 0] 150)) (w.heap.size) 32 [.slice A P.length c] := by simpa using (BoxAt.alloc (BoxAt.new w 32 [.slice A P.length c]) (.cells #[.int .i64 0, .int .i64 0, .int .i64 0] 150))
  have hx0 : BoxAt ((w.alloc (.cells #[.slice A P.length c] 32)).alloc (.cells #[.int .i64 0, .int .i64 0, .int .i64 0] 150)) (w.heap.size + 1) 150 [.int .i64 0, .int .i64 0, .int .i64 0] := by simpa using (BoxAt.new (w.alloc (.cells #[.slice A P.length c] 32)) 150 [.int .i64 0, .int .i64 0, .int .i64 0])
  have hs0 := (Same.alloc (Same.alloc (Same.refl w) (.cells #[.slice A P.length c] 32)) (.cells #[.int .i64 0, .int .i64 0, .int .i64 0] 150))
  generalize ((w.alloc (.cells #[.slice A P.length c] 32)).alloc (.cells #[.int .i64 0, .int .i64 0, .int .i64 0] 150)) = w0 at *
  go_loopw [9, 16] (fun t9 i wr => ∃ (k : Nat) (y0 y1 y2 : Int), k ≤ P.length ∧ i = .int .i64 k ∧ t9 = .bool (decide (0 ≤ ixTo P m known k)) ∧ ((ixTo P m known k = -1 ∧ y2 = 0) ∨ ∃ j : Nat, ixTo P m known k = j ∧ P[j]? = some (y0, y1, y2)) ∧ BoxAt wr w.heap.size 32 [.slice A P.length c] ∧ BoxAt wr (w.heap.size + 1) 150 [.int .i64 y0, .int .i64 y1, .int .i64 y2] ∧ Same w wr) (fun _ i _ => P.length - (intOf i).toNat)
  case atStart => exact ⟨0, 0, 0, 0, Nat.zero_le _, rfl, rfl, .inl ⟨rfl, rfl⟩, h1, hx0, hs0⟩
  case round =>
    obtain ⟨k, y0, y1, y2, hk, rfl, rfl, HY, hb, hx, hs⟩ := hrel
    clear h1 hx0 hs0
    have x2 := hx.cell 2 rfl
    by_cases hlt : k < P.length
    · have b0 := hb.cell 0 rfl
      have hbl0 := hb.lt
      have x0 := hx.cell 0 rfl
      have x1 := hx.cell 1 rfl
      have z0 := hx.frozen 0
      have z1 := hx.frozen 1
      have z2 := hx.frozen 2
      have hxl := hx.lt
      obtain ⟨b, off, x, rfl, hc, HX, hbl⟩ := (hA.same hs).at_ hlt
      obtain ⟨f0, f1, f2⟩ := x
      have hbs := ixTo_succ m known HX.out
      have hbr := ixTo_range P m known k
      obtain ⟨bb, hbb⟩ : ∃ bb, bb = ixTo P m known k := ⟨_, rfl⟩
      rw [← hbb] at hbs hbr HY ⊢
      have HBS : Hid _ := Lib.hid hbs
      have HY2 := Lib.hid HY
      have d0 := hc 0 _ rfl
      have d1 := hc 1 _ rfl
      have d2 := hc 2 _ rfl
      simp only [Nat.add_zero] at d0 d1 d2
      clear hc hbb hbs HY
      by_cases e5 : bb < 0
      · have g5 : decide (0 ≤ bb) = false := by simp; omega
        have HF := Lib.hid (show Value.bool false = Value.bool (decide (0 ≤ bb)) by rw [g5])
        rw [g5]
        clear g5
        by_cases e2 : f0 ≤ m
        · by_cases e3 : f1 ≤ known
          · skip
            have HT := Lib.hid (show ixTo P m known (k + 1) = (k : Int) by rw [HBS.out]; simp [e2, e3, e5])
            have g0 : decide (f0 ≤ m) = true := by simp [e2]
            have g1 : decide (f1 ≤ known) = true := by simp [e3]
            go_wp2
            go_roundw
            case rel =>
              exact ⟨k + 1, f0, f1, f2, hlt, by go_num, by rw [HT.out]; simp, Or.inr ⟨k, HT.out, HX.out⟩, (((hb.other _ (by omega)).other _ (by omega)).other _ (by omega)).alloc _, (((hx.set 0 _).set 1 _).set 2 _).alloc _, (((hs.setCell (by simp) _).setCell (by simp) _).setCell (by simp) _).alloc _⟩
            case measure => simp [intOf]; omega
          · skip
            have HT := Lib.hid (show ixTo P m known (k + 1) = bb by rw [HBS.out]; simp [e2, e3])
            have g0 : decide (f0 ≤ m) = true := by simp [e2]
            have g1 : decide (f1 ≤ known) = false := by simp; omega
            go_wp2
            go_roundw
            case rel => exact ⟨k + 1, y0, y1, y2, hlt, by go_num, by rw [HT.out]; exact HF.out, by rw [HT.out]; exact HY2.out, hb.alloc _, hx.alloc _, hs.alloc _⟩
            case measure => simp [intOf]; omega
        · skip
          have HT := Lib.hid (show ixTo P m known (k + 1) = bb by rw [HBS.out]; simp [e2])
          have g0 : decide (f0 ≤ m) = false := by simp; omega
          go_wp2
          go_roundw
          case rel => exact ⟨k + 1, y0, y1, y2, hlt, by go_num, by rw [HT.out]; exact HF.out, by rw [HT.out]; exact HY2.out, hb.alloc _, hx.alloc _, hs.alloc _⟩
          case measure => simp [intOf]; omega
      · have g5 : decide (0 ≤ bb) = true := by simp; omega
        have HF := Lib.hid (show Value.bool true = Value.bool (decide (0 ≤ bb)) by rw [g5])
        have hg : (P.getD bb.toNat (0, 0, 0)).1 = y0 := by
          obtain ⟨h, _⟩ | ⟨j, rfl, hj⟩ := HY2.out
          · omega
          · simp [List.getD, hj]
        rw [hg] at HBS
        rw [g5]
        clear g5 hg
        by_cases e2 : f0 ≤ m
        · by_cases e3 : f1 ≤ known
          · by_cases e6 : y0 ≤ f0
            · skip
              have HT := Lib.hid (show ixTo P m known (k + 1) = (k : Int) by rw [HBS.out]; simp [e2, e3, e5, e6])
              have g0 : decide (f0 ≤ m) = true := by simp [e2]
              have g1 : decide (f1 ≤ known) = true := by simp [e3]
              have g3 : decide (y0 ≤ f0) = true := by simp [e6]
              go_wp2
              go_roundw
              case rel =>
                exact ⟨k + 1, f0, f1, f2, hlt, by go_num, by rw [HT.out]; simp, Or.inr ⟨k, HT.out, HX.out⟩, (((hb.other _ (by omega)).other _ (by omega)).other _ (by omega)).alloc _, (((hx.set 0 _).set 1 _).set 2 _).alloc _, (((hs.setCell (by simp) _).setCell (by simp) _).setCell (by simp) _).alloc _⟩
              case measure => simp [intOf]; omega
            · skip
              have HT := Lib.hid (show ixTo P m known (k + 1) = bb by rw [HBS.out]; simp [e2, e3, e5, e6])
              have g0 : decide (f0 ≤ m) = true := by simp [e2]
              have g1 : decide (f1 ≤ known) = true := by simp [e3]
              have g3 : decide (y0 ≤ f0) = false := by simp; omega
              go_wp2
              go_roundw
              case rel => exact ⟨k + 1, y0, y1, y2, hlt, by go_num, by rw [HT.out]; exact HF.out, by rw [HT.out]; exact HY2.out, hb.alloc _, hx.alloc _, hs.alloc _⟩
              case measure => simp [intOf]; omega
          · skip
            have HT := Lib.hid (show ixTo P m known (k + 1) = bb by rw [HBS.out]; simp [e2, e3])
            have g0 : decide (f0 ≤ m) = true := by simp [e2]
            have g1 : decide (f1 ≤ known) = false := by simp; omega
            go_wp2
            go_roundw
            case rel => exact ⟨k + 1, y0, y1, y2, hlt, by go_num, by rw [HT.out]; exact HF.out, by rw [HT.out]; exact HY2.out, hb.alloc _, hx.alloc _, hs.alloc _⟩
            case measure => simp [intOf]; omega
        · skip
          have HT := Lib.hid (show ixTo P m known (k + 1) = bb by rw [HBS.out]; simp [e2])
          have g0 : decide (f0 ≤ m) = false := by simp; omega
          go_wp2
          go_roundw
          case rel => exact ⟨k + 1, y0, y1, y2, hlt, by go_num, by rw [HT.out]; exact HF.out, by rw [HT.out]; exact HY2.out, hb.alloc _, hx.alloc _, hs.alloc _⟩
          case measure => simp [intOf]; omega
    · obtain rfl : k = P.length := by omega
      have HR := Lib.hid (show indexAt P m known = (y2, decide (0 ≤ ixTo P m known P.length)) by
        unfold indexAt
        obtain ⟨h, h2⟩ | ⟨j, h, hj⟩ := HY
        · rw [h, h2]; simp
        · rw [h]; simp [List.getD, hj])
      clear HY
      go_wp2
      go_ret2
      exact ⟨by rw [HR.out]; rfl, hs⟩
end Go.Proofs.YtjfmknhnplefnaaGreat
