/- Joined of IntS, AllIn: what is proved stands ahead of each part. -/
import Derived.Test.YtjfmknhnplefnaaGreatZBase
import Derived.Test.YtjfmknhnplefnaaGreatZPlain

section
/-
  Copies of lists of integers: toIntS and eqIntS.
-/
namespace Go.Proofs.YtjfmknhnplefnaaGreat
open Go.RowKit

theorem Tryz.infoInt : (Tryz.prog.info? 3).map (fun i => (i.zero, i.size, i.bytes)) = some (some (.int .i64 0), 1, 8) := by kernel_rfl

/-- A row of the call's own that holds integers. -/
def OwnI (w : World) (base : Nat) (v : Value) (zs : List Int) : Prop := w.ownsRow base 3 1 v zs.length (zs.map (Value.int .i64))

theorem OwnI.size {w : World} {base : Nat} {v : Value} {zs : List Int} {g n c : Nat} (h : OwnI w base v zs) (hv : v = .slice (some ⟨g, 0, none⟩) n c) : base ≤ g ∧ g < w.heap.size :=
  World.ownsRow.lt h g (by subst hv; rfl)

theorem OwnI.ints {w : World} {base : Nat} {A : Option Addr} {n c : Nat} {zs : List Int} (h : OwnI w base (.slice A n c) zs) : IntsAt w A zs := by
  rcases zs with _ | ⟨z, zs⟩
  · exact .inl rfl
  · have hlt := World.ownsRow.lt h
    rcases h.2 with ⟨hv, hn⟩ | ⟨g, cap, cur, hv, hb, hh, hr⟩
    · simp at hn
    · injection hv with hv
      subst hv
      refine .inr ⟨g, 0, rfl, (hlt g rfl).2, fun k x hx => ?_⟩
      have := World.ownsRow.cells h (g := g) rfl k (.int .i64 x) (by rw [List.getElem?_map, hx]; rfl)
      rw [Addr.add_lit] at this
      exact this

/-- What came in as a slice of integers reads as a list. -/
theorem ints_opened {W : World} {x : Addr} {l c : Nat} {zs : List Int} (hl : l ≤ c) (hm : c ≤ maxLen) (hz : zs.length = c) (hcell : ∀ i, i < zs.length → W.cell? (x.add i) = some (.int .i64 (zs.getD i 0))) :
    ∃ ys : List Int, l = ys.length ∧ IntsAt W (some x) ys ∧ ys.length ≤ 9223372036854775807 := by
  refine ⟨zs.take l, by simp; omega, ?_, by unfold maxLen at hm; simp; omega⟩
  rcases Nat.eq_zero_or_pos l with h0 | h0
  · subst h0; exact .inl (by simp)
  · obtain ⟨b, off, spot⟩ := x
    have hc := hcell 0 (by omega)
    have hspot : spot = none := by simpa [Addr.add] using World.cell?_spot hc
    subst hspot
    refine .inr ⟨b, off, rfl, World.block_lt_of_cell? W _ hc, fun k y hy => ?_⟩
    have hk : k < l := by
      have := (List.getElem?_eq_some_iff.1 hy).1
      simp at this; omega
    have h1 := hcell k (by omega)
    rw [Addr.add_lit] at h1
    rw [h1]
    have h2 : zs[k]? = some y := by rw [List.getElem?_take] at hy; simpa [hk] using hy
    simp [List.getD, h2]

theorem OwnI.same {a b : World} {base : Nat} {v : Value} {zs : List Int} (h : OwnI a base v zs) (hs : Same a b) : OwnI b base v zs := hs.owns h
theorem OwnI.drew {a b : World} {base : Nat} {v : Value} {zs : List Int} (h : OwnI a base v zs) (hs : Drew a b) : OwnI b base v zs := hs.same.owns h
theorem OwnI.alloc {a : World} {base : Nat} {v : Value} {zs : List Int} (h : OwnI a base v zs) (o : Obj) : OwnI (a.alloc o) base v zs := World.ownsRow.alloc h o
theorem OwnI.upd {lo hi l k : Nat} {a b : World} {base : Nat} {v : Value} {zs : List Int} (h : OwnI a base v zs) (hu : Upd lo hi a b) (hz : Zn v l k) (hd : k ≤ lo ∨ hi ≤ l) : OwnI b base v zs := hu.owns h hz hd
theorem OwnI.zn {a : World} {base : Nat} {v : Value} {zs : List Int} (h : OwnI a base v zs) : Zn v base a.heap.size := Zn.of h
theorem OwnI.form {a : World} {base : Nat} {v : Value} {zs : List Int} (h : OwnI a base v zs) : ∃ A c, v = .slice A zs.length c := owns_form h
theorem OwnI.base {a : World} {base base' : Nat} {v : Value} {zs : List Int} (h : OwnI a base v zs) (hb : base' ≤ base) : OwnI a base' v zs := owns_base h hb
theorem OwnI.empty (a : World) {base : Nat} (hb : base ≤ a.heap.size) : OwnI (a.alloc (.cells #[] 3)) base (.slice (some ⟨a.heap.size, 0, none⟩) 0 0) [] := World.ownsRow_lit _ _ 0 hb (by unfold maxLen; omega) rfl
theorem OwnI.nil (a : World) (base : Nat) : OwnI a base (.slice none 0 0) [] := World.ownsRow_nil _ _ _ _
theorem OwnI.at_ {a : World} {base : Nat} {A : Option Addr} {n c : Nat} {zs : List Int} (h : OwnI a base (.slice A n c) zs) {k : Nat} {x : Int} (hx : zs[k]? = some x) :
    ∃ g, A = some ⟨g, 0, none⟩ ∧ base ≤ g ∧ g < a.heap.size ∧ a.cell? ⟨g, k, none⟩ = some (.int .i64 x) ∧ a.frozen? ⟨g, k, none⟩ = false ∧
      ∀ y, Hid (OwnI (a.setCell ⟨g, k, none⟩ (.int .i64 y)) base (.slice A n c) (zs.set k y) ∧ a.grownBy (a.setCell ⟨g, k, none⟩ (.int .i64 y)) (some g)) := by
  have hk := (List.getElem?_eq_some_iff.1 hx).1
  have hlt := World.ownsRow.lt h
  rcases h.2 with ⟨hv, hn⟩ | ⟨g, cap, cur, hv, hb, hh, hr⟩
  · simp at hn; subst hn; simp at hk
  · injection hv with hA hn hc
    subst hA hn hc
    refine ⟨g, rfl, hb, (hlt g rfl).2, ?_, World.ownsRow.frozenAt h k, fun y => ?_⟩
    · rw [World.ownsRow.cellAt h k (by omega), List.getElem?_map, hx]; rfl
    · have := World.ownsRow.stored h k (.int .i64 y)
      rw [← List.map_set] at this
      refine ⟨?_, this.2⟩
      show World.ownsRow _ _ _ _ _ _ _
      rw [List.length_set]
      exact this.1

theorem OwnI.cell {a : World} {base g n c : Nat} {zs : List Int} (h : OwnI a base (.slice (some ⟨g, 0, none⟩) n c) zs) {k : Nat} {x : Int} (hx : zs[k]? = some x) : a.cell? ⟨g, k, none⟩ = some (.int .i64 x) := by
  obtain ⟨g', he, _, _, hc, _⟩ := OwnI.at_ h hx
  injection he with he
  injection he with he
  subst he
  exact hc
/-- What a function hands back that makes a list of integers of its own. -/
def RetI (w : World) (zs : List Int) (e : Ending) (w' : World) : Prop := ∃ A c, e = .returned (.slice A zs.length c) ∧ OwnI w' w.heap.size (.slice A zs.length c) zs ∧ Same w w'
theorem RetI.of {w w' : World} {zs : List Int} {v : Value} (h : OwnI w' w.heap.size v zs) (hs : Same w w') : RetI w zs (.returned v) w' := by
  obtain ⟨A, c, rfl⟩ := h.form
  exact ⟨A, c, rfl, h, hs⟩

/-- append of one integer. -/
theorem wp_appI (w : World) {o : Oper} {a : Act} {K : Act → World → Prop} {Q : Exit → Act → World → Prop} (s x : Operand)
    (ho : o.op = .call { callee := .builtin .append, args := #[s, x], argTypes := #[40, 40] })
    (base : Nat) (v : Value) (zs : List Int) (hs : a.eval s = v) (hown : OwnI w base v zs) (b c : Nat) (y : Int) (hx : a.eval x = .slice (some ⟨b, 0, none⟩) 1 c)
    (hc : w.cell? ⟨b, 0, none⟩ = some (.int .i64 y)) (hn : zs.length ≤ 1000000000) (hbase : base ≤ w.heap.size)
    (h : ∀ v' w', OwnI w' base v' (zs ++ [y]) → Upd base w.heap.size w w' → K (a.put o.dst v') w') : o.wp Tryz.prog a w K Q := by
  refine wp_app w s x 40 ho 3 (.int .i64 0) 1 8 Tryz.underlying40 Tryz.infoInt rfl (by decide) base v zs.length _ hs hown b c [.int .i64 y] hx rfl ?_ ?_ hn (by decide) hbase ?_
  · intro j u hu
    match j, hu with
    | 0, hu => simp at hu; subst hu; exact hc
  · intro u hu; simp at hu; subst hu; rfl
  · intro v' w' h1 h2
    refine h v' w' ?_ h2
    show World.ownsRow _ _ _ _ _ _ _
    rw [List.length_append, List.map_append]
    exact h1
theorem appI (w : World) {ops : Array Oper} {rest : List Oper} {o : Oper} {a : Act} {Q : Exit → Act → World → Prop} (hg : o.guard = none) (s x : Operand)
    (ho : o.op = .call { callee := .builtin .append, args := #[s, x], argTypes := #[40, 40] })
    (base : Nat) (v : Value) (zs : List Int) (hs : a.eval s = v) (hown : OwnI w base v zs) (b c : Nat) (y : Int) (hx : a.eval x = .slice (some ⟨b, 0, none⟩) 1 c)
    (hc : w.cell? ⟨b, 0, none⟩ = some (.int .i64 y)) (hn : zs.length ≤ 1000000000) (hbase : base ≤ w.heap.size)
    (h : ∀ v' w', OwnI w' base v' (zs ++ [y]) → Upd base w.heap.size w w' → wpList Tryz.prog ops Q rest (a.put o.dst v') w') :
    wpList Tryz.prog ops Q (o :: rest) a w :=
  wpList_of hg fun _ hK => wp_appI w s x ho base v zs hs hown b c y hx hc hn hbase fun v' w' h1 h2 => hK _ _ (h v' w' h1 h2)
theorem stepI (w : World) {ops : Array Oper} {o : Oper} {a : Act} {K : Act → World → Prop} {Q : Exit → Act → World → Prop} {E : Prop} (hg : o.guard = none) (s x : Operand)
    (ho : o.op = .call { callee := .builtin .append, args := #[s, x], argTypes := #[40, 40] })
    (base : Nat) (v : Value) (zs : List Int) (hs : a.eval s = v) (hown : OwnI w base v zs) (b c : Nat) (y : Int) (hx : a.eval x = .slice (some ⟨b, 0, none⟩) 1 c)
    (hc : w.cell? ⟨b, 0, none⟩ = some (.int .i64 y)) (hn : zs.length ≤ 1000000000) (hbase : base ≤ w.heap.size)
    (h : ∀ v' w', OwnI w' base v' (zs ++ [y]) → Upd base w.heap.size w w' → K (a.put o.dst v') w') :
    if Region.wanted o (yielded ops a.tmps) = true then Oper.wp Tryz.prog o a w K Q else E :=
  step_of hg (wp_appI w s x ho base v zs hs hown b c y hx hc hn hbase h)

set_option maxHeartbeats 400000 in
theorem eqIntS_any (A B : Option Addr) (c d : Nat) (xs ys : List Int) (w : World) (hx : xs.length ≤ 9223372036854775807) (hy : ys.length ≤ 9223372036854775807) (hA : IntsAt w A xs) (hB : IntsAt w B ys) :
    Calls Tryz.prog 37 #[.slice A xs.length c, .slice B ys.length d] w fun e w' => e = .returned (.bool (decide (xs = ys))) ∧ Drew w w' := by
  by_cases hl : xs.length = ys.length
  · have hne : ((xs.length : Int) != (ys.length : Int)) = false := by rw [hl]; simp
    have HL := Lib.hid hl
    clear hl
    go_enter Tryz.func37, Tryz.ntmps37
    go_wp2
    go_loopw [5] (fun i wr => ∃ k : Nat, k ≤ xs.length ∧ i = .int .i64 k ∧ Hid (xs.take k = ys.take k) ∧ Drew w wr) (fun i _ => xs.length - (intOf i).toNat)
    case atStart => exact ⟨0, Nat.zero_le _, rfl, rfl, Drew.refl _⟩
    case round =>
      obtain ⟨k, hk, rfl, hall, hd⟩ := hrel
      by_cases hlt : k < xs.length
      · obtain ⟨b, off, x, rfl, hcx, HX, _⟩ := (hA.drew hd).at_ hlt
        have hlt' : k < ys.length := by have := HL.out; omega
        obtain ⟨b', off', y, rfl, hcy, HY, _⟩ := (hB.drew hd).at_ hlt'
        clear hA hB
        by_cases hxy : x = y
        · subst hxy
          go_wp2
          go_quiet (fail)
          go_wp2
          go_roundw
          case rel => exact ⟨k + 1, hlt, by go_num, take_eq_succ hall.out HX.out HY.out, hd.drewN _⟩
          case measure => simp [intOf]; omega
        · have hb : (x != y) = true := by simp [hxy]
          have HN := Lib.hid hxy
          clear hxy
          go_wp2
          go_quiet (fail)
          go_wp2
          go_ret
          refine ⟨ret_bool (Eq.symm (decide_eq_false (fun e => HN.out ?_))), hd.drewN _⟩
          subst e
          have := HX.out.symm.trans HY.out
          simpa using this
      · go_wp2
        go_ret
        refine ⟨ret_bool (Eq.symm (decide_eq_true ?_)), hd⟩
        have h1 := hall.out
        have h2 := HL.out
        rw [show k = xs.length by omega, List.take_length, h2, List.take_length] at h1
        exact h1
  · have hne : ((xs.length : Int) != (ys.length : Int)) = true := by simp; omega
    have HL := Lib.hid hl
    clear hl
    go_enter Tryz.func37, Tryz.ntmps37
    go_wp2
    go_ret
    exact ⟨ret_bool (Eq.symm (decide_eq_false (fun e => HL.out (by rw [e])))), Drew.refl _⟩

def markL (k : Int) (n : Nat) : List Int := (List.range n).map fun j : Nat => k + (j : Int)
theorem markL_at {k : Int} {n j : Nat} (h : j < n) : (markL k n)[j]? = some (k + (j : Int)) := by simp [markL, h]
theorem markL_length (k : Int) (n : Nat) : (markL k n).length = n := by simp [markL]

set_option maxHeartbeats 400000 in
theorem markIntS_any (A : Option Addr) (n c : Nat) (zs : List Int) (k0 : Int) (w : World) (base : Nat) (hl : zs.length = n) (hz : zs.length ≤ 2000000) (h0 : 0 ≤ k0) (h1 : k0 ≤ 1000000000) (hA : OwnI w base (.slice A n c) zs) {lo hi : Nat} (hzn : Zn (.slice A n c) lo hi) :
    Calls Tryz.prog 38 #[.slice A n c, .int .i64 k0] w fun e w' => e = .returned (.int .i64 (k0 + n)) ∧ OwnI w' base (.slice A n c) (markL k0 n) ∧ Upd lo hi w w' := by
  subst hl
  go_enter Tryz.func38, Tryz.ntmps38
  go_wp2
  go_loopw [1, 5] (fun q i wr => ∃ k : Nat, k ≤ zs.length ∧ i = .int .i64 k ∧ q = .int .i64 (k0 + k) ∧ Hid (OwnI wr base (.slice A zs.length c) (mix (markL k0 zs.length) zs k)) ∧ Upd lo hi w wr) (fun _ i _ => zs.length - (intOf i).toNat)
  case atStart => exact ⟨0, Nat.zero_le _, rfl, by simp, by rw [mix_zero]; exact hA, (Same.refl w).upd _ _⟩
  case round =>
    obtain ⟨k, hk, rfl, rfl, hown, hu⟩ := hrel
    by_cases hlt : k < zs.length
    · obtain ⟨u, hu'⟩ : ∃ u, (mix (markL k0 zs.length) zs k)[k]? = some u := ⟨_, List.getElem?_eq_getElem (by rw [mix_length (by simp [markL]) (by simp [markL]; omega)]; simpa [markL] using hlt)⟩
      obtain ⟨g, rfl, hb, hgs, hcell, hfr, hst⟩ := hown.out.at_ hu'
      have hst' := hst (k0 + k)
      clear hst hA hu'
      have hzg := hzn g rfl
      go_wp2
      go_roundw
      case rel =>
        refine ⟨k + 1, hlt, by go_num, by go_num, ?_, hu.grown hst'.out.2 hzg.1 hzg.2⟩
        have := hst'.out.1
        rw [mix_set (markL_at hlt) (by simp [markL])] at this
        exact this
      case measure => simp [intOf]; omega
    · go_wp2
      go_ret
      refine ⟨ret_int (by omega), ?_, hu⟩
      have := hown.out
      rwa [mix_full _ _ (by simp [markL]; omega) (by simp [markL])] at this

set_option maxHeartbeats 400000 in
theorem heldIntS_any (A : Option Addr) (n c : Nat) (k0 : Int) (w : World) (hz : n ≤ 2000000) (h0 : 0 ≤ k0) (h1 : k0 ≤ 1000000000) (hA : IntsAt w A (markL k0 n)) :
    Calls Tryz.prog 39 #[.slice A n c, .int .i64 k0] w fun e w' => e = .returned (.int .i64 (k0 + n)) ∧ w = w' := by
  go_enter Tryz.func39, Tryz.ntmps39
  go_wp2
  go_loop [1, 5] (fun q i => ∃ k : Nat, k ≤ n ∧ i = .int .i64 k ∧ q = .int .i64 (k0 + k)) (fun _ i => n - (intOf i).toNat)
  case atStart => exact ⟨0, Nat.zero_le _, rfl, by simp⟩
  case round =>
    obtain ⟨k, hk, rfl, rfl⟩ := hrel
    by_cases hlt : k < n
    · obtain ⟨b, off, x, rfl, hcx, HX, _⟩ := hA.at_ (k := k) (by rw [markL_length]; exact hlt)
      obtain rfl : x = k0 + k := by
        have := HX.out.symm.trans (markL_at (k := k0) hlt)
        simpa using this
      clear hA HX
      have hne : ((k0 + (k : Int)) != (k0 + (k : Int))) = false := by simp
      go_wp2
      go_round
      case rel => exact ⟨k + 1, hlt, by go_num, by go_num⟩
      case measure => simp [intOf]; omega
    · go_wp2
      go_ret
      exact ⟨ret_int (by omega), rfl⟩
end Go.Proofs.YtjfmknhnplefnaaGreat
end

section
/-
  The contract of allWithin.
-/
namespace Go.Proofs.YtjfmknhnplefnaaGreat
open Go.RowKit

theorem notIn_any (x lo hi : Int) (b1 b2 : Nat) (w : World) (h1 : w.cell? ⟨b1, 0, none⟩ = some (.int .i64 lo)) (h2 : w.cell? ⟨b2, 0, none⟩ = some (.int .i64 hi)) :
    Calls Tryz.prog 195 #[.int .i64 x, .pointer (some ⟨b1, 0, none⟩), .pointer (some ⟨b2, 0, none⟩)] w fun e w' => e = .returned (.bool (!inB x lo hi)) ∧ Same w w' := by
  go_enter Tryz.func195, Tryz.ntmps195
  go_wp2_with (go_at_call 110; refine (within_any _ _ _ _).mono ?_; rintro e w' ⟨rfl, rfl⟩)
  go_ret
  exact ⟨rfl, Same.refl _⟩

set_option maxHeartbeats 400000 in
theorem indexOut_any (b1 b2 : Nat) (lo hi : Int) (A : Option Addr) (c : Nat) (zs : List Int) (w : World) (hz : zs.length ≤ 9223372036854775807) (hA : IntsAt w A zs) (hl1 : b1 < w.heap.size) (hl2 : b2 < w.heap.size) (h1 : w.cell? ⟨b1, 0, none⟩ = some (.int .i64 lo)) (h2 : w.cell? ⟨b2, 0, none⟩ = some (.int .i64 hi)) :
    Calls Tryz.prog 211 #[.slice A zs.length c, .func (.func 195) #[] #[.pointer (some ⟨b1, 0, none⟩), .pointer (some ⟨b2, 0, none⟩)]] w fun e w' => ∃ r : Int, e = .returned (.int .i64 r) ∧ Found (fun x => !inB x lo hi) zs r ∧ Same w w' := by
  go_enter Tryz.func211, Tryz.ntmps211
  go_wp2
  go_loopw [8] (fun i wr => ∃ k : Nat, k ≤ zs.length ∧ i = .int .i64 k ∧ Hid ((zs.take k).all (fun x => !!inB x lo hi) = true) ∧ Same w wr) (fun i _ => zs.length - (intOf i).toNat)
  case atStart => exact ⟨0, Nat.zero_le _, rfl, by simp [Hid], Same.refl _⟩
  case round =>
    obtain ⟨k, hk, rfl, hall, hs⟩ := hrel
    by_cases hlt : k < zs.length
    · obtain ⟨b, off, x, rfl, hc, HX, _⟩ := (hA.same hs).at_ hlt
      clear hA
      have hb1 := (hs.cell (p := ⟨b1, 0, none⟩) hl1).trans h1
      have hb2 := (hs.cell (p := ⟨b2, 0, none⟩) hl2).trans h2
      go_wp2_with fail
      refine (notIn_any x lo hi b1 b2 _ hb1 hb2).mono ?_
      rintro e w1 ⟨rfl, hs1⟩
      have hss := hs.trans hs1
      clear hs hs1
      cases hp : !inB x lo hi
      · have HP := Lib.hid (all_take_succ hall.out HX.out (show (!!inB x lo hi) = true by rw [hp]; rfl))
        go_wp2
        go_roundw
        case rel => exact ⟨k + 1, hlt, by go_num, HP, hss⟩
        case measure => simp [intOf]; omega
      · have HP := Lib.hid (show Found (fun x => !inB x lo hi) zs k from .inr ⟨k, _, rfl, HX.out, hp, hall.out⟩)
        go_wp2
        go_ret
        exact ⟨_, rfl, HP.out, hss⟩
    · have hl := hall.out
      rw [show k = zs.length by omega, List.take_length] at hl
      have HP := Lib.hid hl
      clear hl hall
      go_wp2
      go_ret
      exact ⟨_, rfl, .inl ⟨rfl, HP.out⟩, hs⟩

theorem containsOut_any (b1 b2 : Nat) (lo hi : Int) (A : Option Addr) (c : Nat) (zs : List Int) (w : World) (hz : zs.length ≤ 9223372036854775807) (hA : IntsAt w A zs) (hl1 : b1 < w.heap.size) (hl2 : b2 < w.heap.size) (h1 : w.cell? ⟨b1, 0, none⟩ = some (.int .i64 lo)) (h2 : w.cell? ⟨b2, 0, none⟩ = some (.int .i64 hi)) :
    Calls Tryz.prog 194 #[.slice A zs.length c, .func (.func 195) #[] #[.pointer (some ⟨b1, 0, none⟩), .pointer (some ⟨b2, 0, none⟩)]] w fun e w' => e = .returned (.bool (!zs.all (fun z => inB z lo hi))) ∧ Same w w' := by
  go_enter Tryz.func194, Tryz.ntmps194
  go_wp2_with fail
  refine (indexOut_any b1 b2 lo hi A c zs _ hz hA hl1 hl2 h1 h2).mono ?_
  rintro e w1 ⟨r, rfl, hf, hs1⟩
  have HF := Lib.hid hf.any
  clear hf
  go_wp2
  all_goals go_ret
  all_goals exact ⟨ret_bool (by rw [List.not_all_eq_any_not]; first | exact HF.out | (rw [← HF.out]; simp; omega)), hs1⟩

set_option maxHeartbeats 400000 in
theorem allWithin_any (A : Option Addr) (c : Nat) (zs : List Int) (lo hi : Int) (w : World) (hz : zs.length ≤ 9223372036854775807) (hA : IntsAt w A zs) :
    Calls Tryz.prog 169 #[.slice A zs.length c, .int .i64 lo, .int .i64 hi] w fun e w' => e = .returned (.bool (zs.all (fun z => inB z lo hi))) ∧ Same w w' := by
  go_enter Tryz.func169, Tryz.ntmps169
  go_wp2_with fail
  refine (containsOut_any _ _ lo hi A c zs _ hz (hA.same (((Same.refl w).alloc _).alloc _)) ?_ ?_ ?_ ?_).mono ?_
  · simp; omega
  · simp
  · simp
  · simp
  rintro e w1 ⟨rfl, hs1⟩
  go_wp2_with fail
  go_ret
  exact ⟨ret_bool (by simp), (((Same.refl w).alloc _).alloc _).trans hs1⟩
end Go.Proofs.YtjfmknhnplefnaaGreat
end

