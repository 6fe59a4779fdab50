/-
  The library's walk of a slice from its end, as an iterator: events and facts.
-/
import Derived.RangeFuncNested
import Derived.RangeFuncBound
import Derived.RangeFuncCalls
import Derived.RangeFuncLeaves
import Derived.Shelf.Abstract
import Derived.Shelf.RegionOpen
import Derived.WalkKit
import Derived.OwnWalkIn
import Derived.TacticsInMore
import Derived.LoopNIn
import Derived.LoopIn
import Derived.Test.YtjfmknhnplefnaaGreatZCaseRec
import Derived.Test.YtjfmknhnplefnaaGreatZPlain
namespace Go.Proofs.YtjfmknhnplefnaaGreat
open Go.RowKit Go.Shelf
set_option linter.unusedVariables false
attribute [local go_sem] Oper.semAt_some

/-- What has come when k rounds are over. -/
def upto {α : Type} (f : Nat → α) (k : Nat) : List α := (List.range k).map f
theorem upto_succ {α : Type} (f : Nat → α) (k : Nat) : upto f (k + 1) = upto f k ++ [f k] := by simp [upto, List.range_succ]
theorem upto_length {α : Type} (f : Nat → α) (k : Nat) : (upto f k).length = k := by simp [upto]
theorem upto_mem {α : Type} (f : Nat → α) {j k : Nat} (h : j < k) : f j ∈ upto f k := by
  simp only [upto, List.mem_map, List.mem_range]
  exact ⟨j, h, rfl⟩
/-- The element that comes in round k, from the end. -/
def itemB {T : Type} (d : T) (L : List T) (k : Nat) : Nat × T := (L.length - 1 - k, L.getD (L.length - 1 - k) d)
theorem boxAt_own {β : Type} (g : Nat) (t : TypeId) (f : β → List Value) : Own (fun s W => BoxAt W g t (f s)) := fun s X Y row hs hg hrow =>
  (hg.block g hs.lt (fun e' => by obtain ⟨o, ho, hc⟩ := hrow g e'.symm; rw [show X.heap[g]? = _ from hs] at ho; cases ho; cases hc)).trans hs
theorem ownFrom_same {β : Type} {w0 : World} {B : Nat} (hB : w0.heap.size ≤ B) : OwnFrom B (fun (_ : β) W => Same w0 W) := ownFrom_below (Nat.le_refl _) hB

def encEvent (x : Nat × TEvent) : Array Value := #[.int .i64 (x.1 : Int), .agg #[.int .i64 x.2.1, .int .i64 x.2.2]]
set_option maxRecDepth 100000 in
set_option maxHeartbeats 4000000 in
theorem back1_Event (F : Fence) (n : Nat) (hf : F.fn 168) (hro : F.round = none) (hn : 1 ≤ n) (l Bs cap : Nat) (A : Option Addr) (L : List TEvent) (w0 : World) (hlen : L.length ≤ 1048576) (hBl : Bs < w0.heap.size)
    (hBs : w0.cell? ⟨Bs, 0, none⟩ = some (.slice A L.length cap)) (hA : AtEvent w0 A L) (J Jx : List (Nat × TEvent) → World → Prop)
    (hY : ∀ pre x W, J pre W → pre.length < L.length → YieldAt F (n - 1) Tryz.prog l (encEvent x) W fun e W' =>
      (e = .returned (.bool true) ∧ J (pre ++ [x]) W' ∧ Below w0.heap.size W W') ∨ (e = .returned (.bool false) ∧ Jx (pre ++ [x]) W'))
    (W : World) (hW : Same w0 W) (h0 : J [] W) :
    CallsIn F n Tryz.prog 168 #[.func (.yield l) #[] #[], .pointer (some ⟨Bs, 0, none⟩)] W fun e W' => (∃ v, e = .returned v) ∧
      ((∃ ys, ys = upto (itemB (0, 0) L) L.length ∧ J ys W') ∨ (∃ pre, (∃ k, k ≤ L.length ∧ pre = upto (itemB (0, 0) L) k) ∧ Jx pre W')) := by
  refine callsIn_of_wp Tryz.func168 rfl hf ?_ hro
  simp only [Tryz.ntmps168, List.size_toArray, List.length_cons, List.length_nil, Nat.reduceAdd, Nat.reduceSub, Array.replicate_succ, Array.replicate_zero, List.push_toArray, List.append_toArray, List.nil_append, List.cons_append]
  have hc0 := (hW.cell (p := ⟨Bs, 0, none⟩) hBl).trans hBs
  gi_wp2
  gi_loopw [3] (fun i wr => ∃ k : Nat, k ≤ L.length ∧ i = .int .i64 ((L.length : Int) - 1 - (k : Int)) ∧ J (upto (itemB (0, 0) L) k) wr ∧ Same w0 wr) (fun i _ => (intOf i + 1).toNat)
  case atStart => exact ⟨0, Nat.zero_le _, by simp, h0, hW⟩
  case round =>
    clear hc0
    obtain ⟨k, hk, rfl, hJs, hs⟩ := hrel
    by_cases hlt : k < L.length
    · obtain ⟨m, hm⟩ : ∃ m : Nat, L.length = m + 1 + k := ⟨L.length - 1 - k, by omega⟩
      have hmi : (L.length : Int) - 1 - (k : Int) = (m : Int) := by omega
      have hml : m < L.length := by omega
      obtain ⟨b, off, x, rfl, hc, HX, hbl⟩ := (hA.same hs).at_ hml
      have hit : itemB (0, 0) L k = (m, x) := by
        unfold itemB
        rw [show L.length - 1 - k = m by omega]
        simp [List.getD, HX.out]
      have HIT := Lib.hid hit
      have hcB := (hs.cell (p := ⟨Bs, 0, none⟩) hBl).trans hBs
      obtain ⟨fn, tmps, assign, body, hy, hR⟩ := hY _ (m, x) wr hJs (by rw [upto_length]; exact hlt)
      rw [← hit] at hR
      rw [← upto_succ] at hR
      obtain ⟨f0, f1⟩ := x
      unfold encEvent at hy
      dsimp only at hy
      have c0 := hc 0 _ rfl
      have c1 := hc 1 _ rfl
      simp only [Nat.add_zero] at c0
      clear hc
      rw [hmi]
      have hmi2 := Lib.hid hmi
      clear hmi hm hit hA
      gi_wp2
      refine hR.mono ?_
      rintro e W3 (⟨rfl, hJ3, hk3⟩ | ⟨rfl, hJx3⟩)
      · gi_wp2
        go_roundw
        case rel => exact ⟨k + 1, by omega, by have := hmi2.out; congr 1; omega, hJ3, Below.trans hs hk3⟩
        case measure => first | (simp [intOf]; done) | (simp [intOf]; omega)
      · gi_wp2
        refine bodyPost_ret (results_none rfl _ _ _) rfl ?_
        exact ⟨⟨_, rfl⟩, .inr ⟨_, ⟨k + 1, by omega, rfl⟩, hJx3⟩⟩
    · obtain rfl : k = L.length := by omega
      rw [show (L.length : Int) - 1 - (L.length : Int) = -1 by omega]
      gi_wp2
      go_end0
      exact ⟨⟨_, rfl⟩, .inl ⟨_, rfl, hJs⟩⟩

theorem back_Event (F : Fence) (n : Nat) (hf : F.fn 120) (hro : F.round = none) (A : Option Addr) (len cap : Nat) (w : World) :
    CallsIn F n Tryz.prog 120 #[.slice A len cap] w fun e w' => e = .returned (.func (.func 168) #[] #[.pointer (some ⟨w.heap.size, 0, none⟩)]) ∧ w' = w.alloc (.cells #[.slice A len cap] 34) := by
  refine callsIn_of_wp Tryz.func120 rfl hf ?_ hro
  simp only [Tryz.ntmps120, List.size_toArray, List.length_cons, List.length_nil, Nat.reduceAdd, Nat.reduceSub, Array.replicate_succ, Array.replicate_zero, List.push_toArray, List.append_toArray, List.nil_append, List.cons_append]
  gi_wp2
  go_ret
  exact ⟨rfl, rfl⟩

theorem stops_Event (F : Fence) (n : Nat) (hf : F.fn 168) (hro : F.round = none) (hn : 1 ≤ n) (Bs cap : Nat) (A : Option Addr) (L : List TEvent) (w0 : World) (hlen : L.length ≤ 1048576) (hBl : Bs < w0.heap.size)
    (hBs : w0.cell? ⟨Bs, 0, none⟩ = some (.slice A L.length cap)) (hA : AtEvent w0 A L) :
    SeqStopsK F n Tryz.prog 168 #[.pointer (some ⟨Bs, 0, none⟩)] encEvent (Below w0.heap.size) (fun ys => ys = upto (itemB (0, 0) L) L.length) (fun pre => ∃ k, k ≤ L.length ∧ pre = upto (itemB (0, 0) L) k) L.length w0 :=
  fun l J Jx W hW _ _ hY h0 => back1_Event F n hf hro hn l Bs cap A L w0 hlen hBl hBs hA J Jx hY W hW h0

def encFact (x : Nat × TFact) : Array Value := #[.int .i64 (x.1 : Int), .agg #[.int .i64 x.2.1, .int .i64 x.2.2.1, .int .i64 x.2.2.2.1, .int .i64 x.2.2.2.2.1, .int .i64 x.2.2.2.2.2]]
set_option maxRecDepth 100000 in
set_option maxHeartbeats 4000000 in
theorem back1_Fact (F : Fence) (n : Nat) (hf : F.fn 193) (hro : F.round = none) (hn : 1 ≤ n) (l Bs cap : Nat) (A : Option Addr) (L : List TFact) (w0 : World) (hlen : L.length ≤ 1048576) (hBl : Bs < w0.heap.size)
    (hBs : w0.cell? ⟨Bs, 0, none⟩ = some (.slice A L.length cap)) (hA : AtFact w0 A L) (J Jx : List (Nat × TFact) → World → Prop)
    (hY : ∀ pre x W, J pre W → pre.length < L.length → YieldAt F (n - 1) Tryz.prog l (encFact x) W fun e W' =>
      (e = .returned (.bool true) ∧ J (pre ++ [x]) W' ∧ Below w0.heap.size W W') ∨ (e = .returned (.bool false) ∧ Jx (pre ++ [x]) W'))
    (W : World) (hW : Same w0 W) (h0 : J [] W) :
    CallsIn F n Tryz.prog 193 #[.func (.yield l) #[] #[], .pointer (some ⟨Bs, 0, none⟩)] W fun e W' => (∃ v, e = .returned v) ∧
      ((∃ ys, ys = upto (itemB (0, 0, 0, 0, 0) L) L.length ∧ J ys W') ∨ (∃ pre, (∃ k, k ≤ L.length ∧ pre = upto (itemB (0, 0, 0, 0, 0) L) k) ∧ Jx pre W')) := by
  refine callsIn_of_wp Tryz.func193 rfl hf ?_ hro
  simp only [Tryz.ntmps193, List.size_toArray, List.length_cons, List.length_nil, Nat.reduceAdd, Nat.reduceSub, Array.replicate_succ, Array.replicate_zero, List.push_toArray, List.append_toArray, List.nil_append, List.cons_append]
  have hc0 := (hW.cell (p := ⟨Bs, 0, none⟩) hBl).trans hBs
  gi_wp2
  gi_loopw [3] (fun i wr => ∃ k : Nat, k ≤ L.length ∧ i = .int .i64 ((L.length : Int) - 1 - (k : Int)) ∧ J (upto (itemB (0, 0, 0, 0, 0) L) k) wr ∧ Same w0 wr) (fun i _ => (intOf i + 1).toNat)
  case atStart => exact ⟨0, Nat.zero_le _, by simp, h0, hW⟩
  case round =>
    clear hc0
    obtain ⟨k, hk, rfl, hJs, hs⟩ := hrel
    by_cases hlt : k < L.length
    · obtain ⟨m, hm⟩ : ∃ m : Nat, L.length = m + 1 + k := ⟨L.length - 1 - k, by omega⟩
      have hmi : (L.length : Int) - 1 - (k : Int) = (m : Int) := by omega
      have hml : m < L.length := by omega
      obtain ⟨b, off, x, rfl, hc, HX, hbl⟩ := (hA.same hs).at_ hml
      have hit : itemB (0, 0, 0, 0, 0) L k = (m, x) := by
        unfold itemB
        rw [show L.length - 1 - k = m by omega]
        simp [List.getD, HX.out]
      have HIT := Lib.hid hit
      have hcB := (hs.cell (p := ⟨Bs, 0, none⟩) hBl).trans hBs
      obtain ⟨fn, tmps, assign, body, hy, hR⟩ := hY _ (m, x) wr hJs (by rw [upto_length]; exact hlt)
      rw [← hit] at hR
      rw [← upto_succ] at hR
      obtain ⟨f0, f1, f2, f3, f4⟩ := x
      unfold encFact at hy
      dsimp only at hy
      have c0 := hc 0 _ rfl
      have c1 := hc 1 _ rfl
      have c2 := hc 2 _ rfl
      have c3 := hc 3 _ rfl
      have c4 := hc 4 _ rfl
      simp only [Nat.add_zero] at c0
      clear hc
      rw [hmi]
      have hmi2 := Lib.hid hmi
      clear hmi hm hit hA
      gi_wp2
      refine hR.mono ?_
      rintro e W3 (⟨rfl, hJ3, hk3⟩ | ⟨rfl, hJx3⟩)
      · gi_wp2
        go_roundw
        case rel => exact ⟨k + 1, by omega, by have := hmi2.out; congr 1; omega, hJ3, Below.trans hs hk3⟩
        case measure => first | (simp [intOf]; done) | (simp [intOf]; omega)
      · gi_wp2
        refine bodyPost_ret (results_none rfl _ _ _) rfl ?_
        exact ⟨⟨_, rfl⟩, .inr ⟨_, ⟨k + 1, by omega, rfl⟩, hJx3⟩⟩
    · obtain rfl : k = L.length := by omega
      rw [show (L.length : Int) - 1 - (L.length : Int) = -1 by omega]
      gi_wp2
      go_end0
      exact ⟨⟨_, rfl⟩, .inl ⟨_, rfl, hJs⟩⟩

theorem back_Fact (F : Fence) (n : Nat) (hf : F.fn 167) (hro : F.round = none) (A : Option Addr) (len cap : Nat) (w : World) :
    CallsIn F n Tryz.prog 167 #[.slice A len cap] w fun e w' => e = .returned (.func (.func 193) #[] #[.pointer (some ⟨w.heap.size, 0, none⟩)]) ∧ w' = w.alloc (.cells #[.slice A len cap] 27) := by
  refine callsIn_of_wp Tryz.func167 rfl hf ?_ hro
  simp only [Tryz.ntmps167, List.size_toArray, List.length_cons, List.length_nil, Nat.reduceAdd, Nat.reduceSub, Array.replicate_succ, Array.replicate_zero, List.push_toArray, List.append_toArray, List.nil_append, List.cons_append]
  gi_wp2
  go_ret
  exact ⟨rfl, rfl⟩

theorem stops_Fact (F : Fence) (n : Nat) (hf : F.fn 193) (hro : F.round = none) (hn : 1 ≤ n) (Bs cap : Nat) (A : Option Addr) (L : List TFact) (w0 : World) (hlen : L.length ≤ 1048576) (hBl : Bs < w0.heap.size)
    (hBs : w0.cell? ⟨Bs, 0, none⟩ = some (.slice A L.length cap)) (hA : AtFact w0 A L) :
    SeqStopsK F n Tryz.prog 193 #[.pointer (some ⟨Bs, 0, none⟩)] encFact (Below w0.heap.size) (fun ys => ys = upto (itemB (0, 0, 0, 0, 0) L) L.length) (fun pre => ∃ k, k ≤ L.length ∧ pre = upto (itemB (0, 0, 0, 0, 0) L) k) L.length w0 :=
  fun l J Jx W hW _ _ hY h0 => back1_Fact F n hf hro hn l Bs cap A L w0 hlen hBl hBs hA J Jx hY W hW h0
end Go.Proofs.YtjfmknhnplefnaaGreat
