/-
  Banks: BankOk of the reference, their copies and comparisons.
-/
import Derived.Test.YtccgbilgfnoheaaItem
import Derived.Test.YtccgbilgfnoheaaIntS
import Derived.Deep.RegionHeld3
namespace Go.Proofs.Ytccgbilgfnoheaa
open Go.RowKit

theorem OwnI.cap {w : World} {base : Nat} {A : Option Addr} {n c : Nat} {zs : List Int} (h : OwnI w base (.slice A n c) zs) : zs.length ≤ c := by
  rcases h.2 with ⟨hv, hn⟩ | ⟨g', cap, cur, hv, _, _, hc, _⟩
  · rw [hn]; omega
  · injection hv with _ _ hv
    omega
theorem IntsAt.take {w : World} {A : Option Addr} {zs : List Int} (h : IntsAt w A zs) (k : Nat) : IntsAt w A (zs.take k) := by
  rcases h with h | ⟨b, off, h1, h2, h3⟩
  · exact .inl (by simp [h])
  · exact .inr ⟨b, off, h1, h2, fun j x hx => h3 j x (by
      have hj := (List.getElem?_eq_some_iff.1 hx).1
      simp at hj
      rw [List.getElem?_take_of_lt (by omega)] at hx
      exact hx)⟩

def hasK (K : List Int) (key : Int) : Bool := K.any (fun x => x == key)
def keyNew (K : List Int) (i : Nat) : Bool := !hasK (K.take i) (K.getD i 0)
def bankAt (K C : List Int) (i : Nat) : Bool := inB (K.getD i 0) 0 3599999 && inB (C.getD i 0) 0 10000000 && keyNew K i
def bankOk (K C : List Int) : Bool := decide (K.length = C.length) && decide (K.length ≤ 2000) && allTo (bankAt K C) K.length
theorem hasK_yes {K : List Int} {key x : Int} {k : Nat} (hx : K[k]? = some x) (h : (x == key) = true) : hasK K key = true := List.any_eq_true.2 ⟨x, List.mem_of_getElem? hx, h⟩
theorem hasK_no {K : List Int} {key : Int} (h : K.all (fun x => !(x == key)) = true) : hasK K key = false := by
  rw [hasK, List.any_eq_false]
  intro x hx
  simpa using List.all_eq_true.1 h x hx
theorem bankAt_eq {K C : List Int} {i : Nat} {x y : Int} (hx : K[i]? = some x) (hy : C[i]? = some y) : bankAt K C i = (inB x 0 3599999 && inB y 0 10000000 && !hasK (K.take i) x) := by
  simp [bankAt, keyNew, List.getD, hx, hy]

set_option maxHeartbeats 400000 in
theorem l25Has_any (A B : Option Addr) (c m d : Nat) (K : List Int) (key : Int) (w : World) (hz : K.length ≤ 9223372036854775807) (hA : IntsAt w A K) :
    Calls Try.prog 66 #[.agg #[.slice A K.length c, .slice B m d], .int .i64 key] w fun e w' => e = .returned (.bool (hasK K key)) ∧ Same w w' := by
  go_enter Try.func66, Try.ntmps66
  go_wp2
  have hb : BoxAt (w.alloc (.cells #[.slice A K.length c, .slice B m d] 29)) (w.heap.size) 29 [.slice A K.length c, .slice B m d] := by simpa using (BoxAt.new w 29 [.slice A K.length c, .slice B m d])
  have hs0 := (Same.alloc (Same.refl w) (.cells #[.slice A K.length c, .slice B m d] 29))
  generalize (w.alloc (.cells #[.slice A K.length c, .slice B m d] 29)) = w0 at *
  go_loopw [5] (fun i wr => ∃ k : Nat, k ≤ K.length ∧ i = .int .i64 k ∧ Hid ((K.take k).all (fun x => !(x == key)) = true) ∧ Same w0 wr) (fun i _ => K.length - (intOf i).toNat)
  case atStart => exact ⟨0, Nat.zero_le _, rfl, by simp [Hid], Same.refl _⟩
  case round =>
    obtain ⟨k, hk, rfl, hall, hs⟩ := hrel
    replace hb := hb.same hs
    have b0 := hb.cell 0 rfl
    clear hb
    by_cases hlt : k < K.length
    · obtain ⟨b, off, x, rfl, hc, HX, _⟩ := ((hA.same hs0).same hs).at_ hlt
      clear hA
      cases hp : (x == key)
      · have HP := Lib.hid (all_take_succ hall.out HX.out (show (!(x == key)) = true by rw [hp]; rfl))
        go_wp2
        go_roundw
        case rel => exact ⟨k + 1, hlt, by go_num, HP, hs⟩
        case measure => simp [intOf]; omega
      · have HP := Lib.hid (hasK_yes HX.out hp)
        go_wp2
        go_ret
        exact ⟨ret_bool HP.out.symm, hs0.trans hs⟩
    · have hl := hall.out
      rw [show k = K.length by omega, List.take_length] at hl
      have HP := Lib.hid (hasK_no hl)
      clear hl hall
      go_wp2
      go_ret
      exact ⟨ret_bool HP.out.symm, hs0.trans hs⟩

theorem keepS {w0 w' : World} {g : Nat} {t : TypeId} {u v x y : Value} {p q : Addr} (hb : BoxAt w0 g t [u, v]) (hp : p.block < w0.heap.size) (hq : q.block < w0.heap.size) (cp : w0.cell? p = some x) (cq : w0.cell? q = some y) (h : Same w0 w') :
    Same w0 w' ∧ w'.cell? ⟨g, 0, none⟩ = some u ∧ w'.cell? ⟨g, 1, none⟩ = some v ∧ w'.cell? p = some x ∧ w'.cell? q = some y :=
  ⟨h, (hb.same h).cell 0 rfl, (hb.same h).cell 1 rfl, (h.cell hp).trans cp, (h.cell hq).trans cq⟩

set_option maxHeartbeats 2000000 in
theorem sBankOk_any (A B : Option Addr) (c d : Nat) (K C : List Int) (w : World) (hzK : K.length ≤ 9223372036854775807) (_hzC : C.length ≤ 9223372036854775807) (hcap : K.length ≤ c) (hA : IntsAt w A K) (hB : IntsAt w B C) :
    Calls Try.prog 26 #[.agg #[.slice A K.length c, .slice B C.length d]] w fun e w' => e = .returned (.bool (bankOk K C)) ∧ Same w w' := by
  by_cases hl : K.length = C.length
  · have b1 : ((K.length : Int) != (C.length : Int)) = false := by rw [hl]; simp
    by_cases h2 : K.length ≤ 2000
    · have HF := Lib.hid (show bankOk K C = allTo (bankAt K C) K.length by rw [bankOk, decide_eq_true hl, decide_eq_true h2]; rfl)
      have HL := Lib.hid hl
      clear hl
      have b2 : ¬ (2000 : Int) < (K.length : Int) := by omega
      go_enter Try.func26, Try.ntmps26
      go_wp2
      have hb : BoxAt (w.alloc (.cells #[.slice A K.length c, .slice B C.length d] 29)) (w.heap.size) 29 [.slice A K.length c, .slice B C.length d] := by simpa using (BoxAt.new w 29 [.slice A K.length c, .slice B C.length d])
      have hs0 := (Same.alloc (Same.refl w) (.cells #[.slice A K.length c, .slice B C.length d] 29))
      generalize (w.alloc (.cells #[.slice A K.length c, .slice B C.length d] 29)) = w0 at *
      go_loopw [3] (fun i wr => ∃ k : Nat, k ≤ K.length ∧ i = .int .i64 k ∧ Hid (allTo (bankAt K C) k = true) ∧ Same w0 wr) (fun i _ => K.length - (intOf i).toNat)
      case atStart => exact ⟨0, Nat.zero_le _, rfl, rfl, Same.refl _⟩
      case round =>
        obtain ⟨k, hk, rfl, hall, hs⟩ := hrel
        have hbr := hb.same hs
        have c0 := hbr.cell 0 rfl
        have c1 := hbr.cell 1 rfl
        by_cases hlt : k < K.length
        · obtain ⟨b, off, x, rfl, ck, HX, hbl⟩ := (hA.same hs0).at_ hlt
          obtain ⟨b', off', y, rfl, cc, HY, hbl'⟩ := (hB.same hs0).at_ (k := k) (by have := HL.out; omega)
          have d0 := (hs.cell (p := ⟨b, off + k, none⟩) hbl).trans ck
          have d1 := (hs.cell (p := ⟨b', off' + k, none⟩) hbl').trans cc
          have HE := Lib.hid (bankAt_eq HX.out HY.out)
          have q0 : (0 : Int) ≤ (k : Int) := by omega
          have q1 : (k : Int) < (K.length : Int) := by omega
          have q2 : (k : Int) < (C.length : Int) := by have := HL.out; omega
          have q3 : (k : Int) ≤ (c : Int) := by omega
          have HB := Lib.hid hb
          have HA := Lib.hid hA
          clear hA hB hbr hb
          cases m1 : inB x 0 3599999
          · have HN := Lib.hid (show bankOk K C = false by rw [HF.out]; exact allTo_false (by rw [HE.out, m1]; rfl) hlt)
            go_wp2
            go_quiet ((go_at_call 65; exact quiet_left (l01In_any _ _ _ _)))
            go_wp2
            go_ret
            exact ⟨ret_bool HN.out.symm, (hs0.trans hs).drewN _⟩
          · cases m2 : inB y 0 10000000
            · have HN := Lib.hid (show bankOk K C = false by rw [HF.out]; exact allTo_false (by rw [HE.out, m1, m2]; rfl) hlt)
              go_wp2
              go_quiet ((go_at_call 65; exact quiet_left (l01In_any _ _ _ _)))
              go_wp2
              go_ret
              exact ⟨ret_bool HN.out.symm, (hs0.trans hs).drewN _⟩
            · have hlk : (K.take k).length = k := by simp; omega
              obtain ⟨m3, hm3⟩ : ∃ m3, m3 = hasK (K.take k) x := ⟨_, rfl⟩
              have HM := Lib.hid hm3
              clear hm3
              go_wp2
              go_region_held3 (fun w' => Same w0 w' ∧ w'.cell? ⟨w.heap.size, 0, none⟩ = some (.slice (some ⟨b, off, none⟩) K.length c) ∧ w'.cell? ⟨w.heap.size, 1, none⟩ = some (.slice (some ⟨b', off', none⟩) C.length d) ∧ w'.cell? ⟨b, off + k, none⟩ = some (.int .i64 x) ∧ w'.cell? ⟨b', off' + k, none⟩ = some (.int .i64 y))
                (first | exact keepS HB.out hbl hbl' ck cc hs.drew | exact keepS HB.out hbl hbl' ck cc hs | (go_split_ands; exact keepS HB.out hbl hbl' ck cc (by first | assumption | exact Same.trans (by assumption) hs8)))
                (first
                  | (go_at_call 65; refine (l01In_any _ _ _ _).mono ?_; rintro e w' ⟨rfl, rfl⟩; first | rw [m1] | rw [m2])
                  | (go_split_ands; go_at_call 66; have hcc := l25Has_any (some ⟨b, off, none⟩) none c 0 0 (K.take k) x _ (by omega) (((HA.out.same hs0).same (by assumption)).take k); rw [hlk, ← HM.out] at hcc; refine hcc.mono ?_; rintro e w8 ⟨rfl, hs8⟩))
              have hsw : Same w0 w8 := by go_split_ands; assumption
              cases m3
              · have HP := Lib.hid (show allTo (bankAt K C) (k + 1) = true by rw [allTo, hall.out, HE.out, m1, m2, ← HM.out]; rfl)
                go_wp2
                go_roundw
                case rel => exact ⟨k + 1, hlt, by go_num, HP, hsw⟩
                case measure => simp [intOf]; omega
              · have HN := Lib.hid (show bankOk K C = false by rw [HF.out]; exact allTo_false (by rw [HE.out, m1, m2, ← HM.out]; rfl) hlt)
                go_wp2
                go_ret
                exact ⟨ret_bool HN.out.symm, hs0.trans hsw⟩
        · go_wp2
          go_ret
          exact ⟨ret_bool (by rw [HF.out, show K.length = k by omega]; exact hall.out.symm), hs0.trans hs⟩
    · have HF := Lib.hid (show bankOk K C = false by rw [bankOk, decide_eq_false h2]; simp)
      have b2 : (2000 : Int) < (K.length : Int) := by omega
      go_enter Try.func26, Try.ntmps26
      go_wp2
      go_ret
      exact ⟨ret_bool HF.out.symm, (Same.refl w).alloc _⟩
  · have HF := Lib.hid (show bankOk K C = false by rw [bankOk, decide_eq_false hl]; simp)
    have b1 : ((K.length : Int) != (C.length : Int)) = true := by simp; omega
    go_enter Try.func26, Try.ntmps26
    go_wp2
    go_ret
    exact ⟨ret_bool HF.out.symm, (Same.refl w).alloc _⟩

/-- Two rows in blocks of their own. -/
def Sep (u v : Value) : Prop := ∀ g, u.ownBlock = some g → v.ownBlock ≠ some g
theorem Sep.symm {u v : Value} (h : Sep u v) : Sep v u := fun g h1 h2 => h g h2 h1
/-- A bank handed back, its rows new. -/
def RetBank (w : World) (K C : List Int) (e : Ending) (w' : World) : Prop := ∃ A c B d, e = .returned (.agg #[.slice A K.length c, .slice B C.length d]) ∧ OwnI w' w.heap.size (.slice A K.length c) K ∧ OwnI w' w.heap.size (.slice B C.length d) C ∧ Sep (.slice A K.length c) (.slice B C.length d) ∧ Same w w'

set_option maxHeartbeats 400000 in
theorem szIntS_any (A : Option Addr) (n c : Nat) (l : Int) (w : World) (hn : n ≤ 9223372036854775807) (h0 : 0 ≤ l) (h1 : l ≤ 1048576) :
    Calls Try.prog 64 #[.slice A n c, .int .i64 l] w fun e w' => e = .returned (.int .i64 (if (n : Int) ≤ l then l - n else -1)) ∧ w = w' := by
  by_cases h : (n : Int) ≤ l
  · go_enter Try.func64, Try.ntmps64
    go_wp2
    go_ret
    exact ⟨rfl, rfl⟩
  · go_enter Try.func64, Try.ntmps64
    go_wp2
    go_ret
    exact ⟨rfl, rfl⟩

set_option maxHeartbeats 400000 in
theorem szBank_any (A : Option Addr) (n c : Nat) (B : Option Addr) (m d : Nat) (l : Int) (w : World) (hn : n ≤ 9223372036854775807) (hm : m ≤ 9223372036854775807) (h0 : 0 ≤ l) (h1 : l ≤ 1048576) :
    Calls Try.prog 25 #[.agg #[.slice A n c, .slice B m d], .int .i64 l] w fun e w' => e = .returned (.int .i64 (if (n : Int) + (m : Int) ≤ l then l - n - m else -1)) ∧ Same w w' := by
  by_cases h : (n : Int) ≤ l
  · by_cases h' : (m : Int) ≤ l - n
    · have hs : (n : Int) + (m : Int) ≤ l := by omega
      go_enter Try.func25, Try.ntmps25
      go_wp2_with fail
      have hb : BoxAt (w.alloc (.cells #[.slice A n c, .slice B m d] 42)) (w.heap.size) 42 [.slice A n c, .slice B m d] := by simpa using (BoxAt.new w 42 [.slice A n c, .slice B m d])
      have hs0 := (Same.alloc (Same.refl w) (.cells #[.slice A n c, .slice B m d] 42))
      generalize (w.alloc (.cells #[.slice A n c, .slice B m d] 42)) = w0 at *
      refine (szIntS_any A n c l _ hn h0 h1).mono ?_
      rintro e w1 ⟨rfl, rfl⟩
      rw [if_pos h]
      have c1 := hb.cell 1 rfl
      go_wp2_with fail
      refine (szIntS_any B m d _ _ hm (by omega) (by omega)).mono ?_
      rintro e w1 ⟨rfl, rfl⟩
      rw [if_pos h']
      go_wp2
      go_ret
      exact ⟨rfl, hs0⟩
    · have hs : ¬ (n : Int) + (m : Int) ≤ l := by omega
      go_enter Try.func25, Try.ntmps25
      go_wp2_with fail
      have hb : BoxAt (w.alloc (.cells #[.slice A n c, .slice B m d] 42)) (w.heap.size) 42 [.slice A n c, .slice B m d] := by simpa using (BoxAt.new w 42 [.slice A n c, .slice B m d])
      have hs0 := (Same.alloc (Same.refl w) (.cells #[.slice A n c, .slice B m d] 42))
      generalize (w.alloc (.cells #[.slice A n c, .slice B m d] 42)) = w0 at *
      refine (szIntS_any A n c l _ hn h0 h1).mono ?_
      rintro e w1 ⟨rfl, rfl⟩
      rw [if_pos h]
      have c1 := hb.cell 1 rfl
      go_wp2_with fail
      refine (szIntS_any B m d _ _ hm (by omega) (by omega)).mono ?_
      rintro e w1 ⟨rfl, rfl⟩
      rw [if_neg (show ¬ (m : Int) ≤ l - n by omega)]
      go_wp2
      go_ret
      exact ⟨rfl, hs0⟩
  · have hs : ¬ (n : Int) + (m : Int) ≤ l := by omega
    go_enter Try.func25, Try.ntmps25
    go_wp2_with fail
    have hb : BoxAt (w.alloc (.cells #[.slice A n c, .slice B m d] 42)) (w.heap.size) 42 [.slice A n c, .slice B m d] := by simpa using (BoxAt.new w 42 [.slice A n c, .slice B m d])
    have hs0 := (Same.alloc (Same.refl w) (.cells #[.slice A n c, .slice B m d] 42))
    generalize (w.alloc (.cells #[.slice A n c, .slice B m d] 42)) = w0 at *
    refine (szIntS_any A n c l _ hn h0 h1).mono ?_
    rintro e w1 ⟨rfl, rfl⟩
    rw [if_neg (show ¬ (n : Int) ≤ l by omega)]
    go_wp2
    go_ret
    exact ⟨rfl, hs0⟩

set_option maxHeartbeats 1000000 in
theorem toBank_any (A : Option Addr) (c : Nat) (K : List Int) (B : Option Addr) (d : Nat) (C : List Int) (w : World) (hz : K.length ≤ 1048576) (hA : IntsAt w A K) (hz' : C.length ≤ 1048576) (hB : IntsAt w B C) :
    Calls Try.prog 27 #[.agg #[.slice A K.length c, .slice B C.length d]] w (RetBank w K C) := by
  go_enter Try.func27, Try.ntmps27
  go_wp2_with fail
  have h1 : BoxAt (((w.alloc (.cells #[.slice A K.length c, .slice B C.length d] 42)).alloc (.cells #[.slice none 0 0, .slice none 0 0] 29)).alloc (.cells #[.slice none 0 0, .slice none 0 0] 29)) (w.heap.size) 42 [.slice A K.length c, .slice B C.length d] := by simpa using (BoxAt.alloc (BoxAt.alloc (BoxAt.new w 42 [.slice A K.length c, .slice B C.length d]) (.cells #[.slice none 0 0, .slice none 0 0] 29)) (.cells #[.slice none 0 0, .slice none 0 0] 29))
  have h2 : BoxAt (((w.alloc (.cells #[.slice A K.length c, .slice B C.length d] 42)).alloc (.cells #[.slice none 0 0, .slice none 0 0] 29)).alloc (.cells #[.slice none 0 0, .slice none 0 0] 29)) (w.heap.size + 1) 29 [.slice none 0 0, .slice none 0 0] := by simpa using (BoxAt.alloc (BoxAt.new (w.alloc (.cells #[.slice A K.length c, .slice B C.length d] 42)) 29 [.slice none 0 0, .slice none 0 0]) (.cells #[.slice none 0 0, .slice none 0 0] 29))
  have h3 : BoxAt (((w.alloc (.cells #[.slice A K.length c, .slice B C.length d] 42)).alloc (.cells #[.slice none 0 0, .slice none 0 0] 29)).alloc (.cells #[.slice none 0 0, .slice none 0 0] 29)) (w.heap.size + 1 + 1) 29 [.slice none 0 0, .slice none 0 0] := by simpa using (BoxAt.new ((w.alloc (.cells #[.slice A K.length c, .slice B C.length d] 42)).alloc (.cells #[.slice none 0 0, .slice none 0 0] 29)) 29 [.slice none 0 0, .slice none 0 0])
  have hs0 := (Same.alloc (Same.alloc (Same.alloc (Same.refl w) (.cells #[.slice A K.length c, .slice B C.length d] 42)) (.cells #[.slice none 0 0, .slice none 0 0] 29)) (.cells #[.slice none 0 0, .slice none 0 0] 29))
  generalize (((w.alloc (.cells #[.slice A K.length c, .slice B C.length d] 42)).alloc (.cells #[.slice none 0 0, .slice none 0 0] 29)).alloc (.cells #[.slice none 0 0, .slice none 0 0] 29)) = w0 at *
  refine (toIntS_any A c K _ hz (hA.same hs0)).mono ?_
  rintro e w1 ⟨rfl, ho, hs1⟩
  have n1 := h3.lt
  have n2 := hs1.size
  replace h1 := h1.same hs1
  replace h2 := h2.same hs1
  replace h3 := h3.same hs1
  have c30 := h3.cell 0 rfl
  have f30 := h3.frozen 0
  have hu := upd_setCell w1 (w.heap.size + 1 + 1) 0 (.slice (some ⟨w0.heap.size, 0, none⟩) K.length K.length)
  have zo := ho.zn
  have S2 := (hs0.trans hs1).setCell (p := ⟨w.heap.size + 1 + 1, 0, none⟩) (by simp; omega) (.slice (some ⟨w0.heap.size, 0, none⟩) K.length K.length)
  have ho2 := ho.upd hu zo (.inr (by omega))
  have g1 := h1.upd hu (.inl (by omega))
  have g2 := h2.upd hu (.inl (by omega))
  have g3 := h3.set 0 (.slice (some ⟨w0.heap.size, 0, none⟩) K.length K.length)
  have n3 := hu.size
  have c11 := g1.cell 1 rfl
  clear h1 h2 h3 hu ho g1
  go_wp2_with fail
  generalize w1.setCell ⟨w.heap.size + 1 + 1, 0, none⟩ (.slice (some ⟨w0.heap.size, 0, none⟩) K.length K.length) = w2 at *
  refine (toIntS_any B d C _ hz' (hB.same S2)).mono ?_
  rintro e w3 ⟨rfl, hp, hs3⟩
  have zp := hp.zn
  have hsep : Sep (Value.slice (some ⟨w0.heap.size, 0, none⟩) K.length K.length) (.slice (some ⟨w2.heap.size, 0, none⟩) C.length C.length) := fun g e1 e2 => by have := zo g e1; have := zp g e2; omega
  replace ho2 := ho2.same hs3
  replace g2 := g2.same hs3
  replace g3 := g3.same hs3
  have n4 := hs3.size
  have n5 := g3.lt
  have S3 := S2.trans hs3
  have nS := S2.size
  clear hs3 c11 c30 f30
  have c20 := g2.cell 0 rfl
  have f20 := g2.frozen 0
  have c21 := g2.cell 1 rfl
  have f21 := g2.frozen 1
  have c30 := g3.cell 0 rfl
  have f30 := g3.frozen 0
  have c31 := g3.cell 1 rfl
  have f31 := g3.frozen 1
  have k3 := g3.set 1 (.slice (some ⟨w2.heap.size, 0, none⟩) C.length C.length)
  have k2 := (((g2.other (k := w.heap.size + 1 + 1) (j := 1) (.slice (some ⟨w2.heap.size, 0, none⟩) C.length C.length) (by omega)).set 0 (.slice (some ⟨w0.heap.size, 0, none⟩) K.length K.length)).set 1 (.slice (some ⟨w2.heap.size, 0, none⟩) C.length C.length))
  have x30 := k3.cell 0 rfl
  have x31 := k3.cell 1 rfl
  have cf0 := k2.cell 0 rfl
  have cf1 := k2.cell 1 rfl
  go_wp2
  refine bodyPost_ret (v := .agg #[(.slice (some ⟨w0.heap.size, 0, none⟩) K.length K.length), (.slice (some ⟨w2.heap.size, 0, none⟩) C.length C.length)]) (by simp [results, Try.results27, go_sem, cf0, cf1]) rfl ?_
  exact ⟨_, _, _, _, rfl,
    ((((ho2.base hs0.size).upd (upd_setCell _ _ _ _) zo (.inr (by omega))).upd (upd_setCell _ _ _ _) zo (.inr (by omega))).upd (upd_setCell _ _ _ _) zo (.inr (by omega))),
    ((((hp.base nS).upd (upd_setCell _ _ _ _) zp (.inr (by omega))).upd (upd_setCell _ _ _ _) zp (.inr (by omega))).upd (upd_setCell _ _ _ _) zp (.inr (by omega))),
    hsep, ((S3.setCell (by simp; omega) _).setCell (by simp) _).setCell (by simp) _⟩
end Go.Proofs.Ytccgbilgfnoheaa
