/-
  Cases: in memory, measured, copied and compared.
-/
import Derived.Test.YtjfmknhnplefnaaGreatZCaseNode
namespace Go.Proofs.YtjfmknhnplefnaaGreat
open Go.RowKit
set_option linter.unusedVariables false

/-- What a case says. -/
structure TCase where
  R : List TRule
  F : List TFact
  P : List TPoint
  birth : Int
  joined : Int
  S : List TSpell
  E : List TEvent
/-- Where a case lies. -/
structure CMem where
  r : Option Addr
  rc : Nat
  f : Option Addr
  fc : Nat
  p : Option Addr
  pc : Nat
  s : Option Addr
  sc : Nat
  e : Option Addr
  ec : Nat
structure CaseAt (w : World) (D : TCase) (m : CMem) : Prop where
  rules : RulesAt w m.r D.R
  facts : AtFact w m.f D.F
  points : AtPoint w m.p D.P
  spells : AtSpell w m.s D.S
  events : AtEvent w m.e D.E
structure CaseOwn (w : World) (base : Nat) (D : TCase) (m : CMem) : Prop where
  rules : OwnRules w base (.slice m.r D.R.length m.rc) D.R
  facts : OwnFact w base (.slice m.f D.F.length m.fc) D.F
  points : OwnPoint w base (.slice m.p D.P.length m.pc) D.P
  spells : OwnSpell w base (.slice m.s D.S.length m.sc) D.S
  events : OwnEvent w base (.slice m.e D.E.length m.ec) D.E
structure TCase.Small (D : TCase) (n : Nat) : Prop where
  R : D.R.length ≤ n
  N : SmallR D.R n
  F : D.F.length ≤ n
  P : D.P.length ≤ n
  S : D.S.length ≤ n
  E : D.E.length ≤ n
def TCase.sz (D : TCase) : Nat := szR D.R + D.F.length + D.P.length + D.S.length + D.E.length
theorem TCase.Small.of {D : TCase} {n : Nat} (h : D.sz ≤ n) : D.Small n := by
  unfold TCase.sz at h
  have h1 := szR_small (show szR D.R ≤ n by omega)
  have h2 : D.R.length ≤ szR D.R := by unfold szR; omega
  exact ⟨by omega, h1, by omega, by omega, by omega, by omega⟩
theorem TCase.Small.mono {D : TCase} {n k : Nat} (h : D.Small n) (hk : n ≤ k) : D.Small k :=
  ⟨by have := h.R; omega, fun r hr => Nat.le_trans (h.N r hr) hk, by have := h.F; omega, by have := h.P; omega, by have := h.S; omega, by have := h.E; omega⟩
section
variable {a b w : World} {D : TCase} {m : CMem} {base : Nat}
theorem CaseAt.same (h : CaseAt a D m) (hs : Same a b) : CaseAt b D m := ⟨h.rules.same hs, h.facts.same hs, h.points.same hs, h.spells.same hs, h.events.same hs⟩
theorem CaseOwn.same (h : CaseOwn a base D m) (hs : Same a b) : CaseOwn b base D m := ⟨h.rules.same hs, h.facts.same hs, h.points.same hs, h.spells.same hs, h.events.same hs⟩
theorem CaseOwn.rebase {base' : Nat} (h : CaseOwn a base D m) (hb : base' ≤ base) : CaseOwn a base' D m := ⟨h.rules.rebase hb, h.facts.rebase hb, h.points.rebase hb, h.spells.rebase hb, h.events.rebase hb⟩
theorem CaseOwn.at_ (h : CaseOwn a base D m) : CaseAt a D m :=
  ⟨h.rules.rules, OwnR.recs cFact_len h.facts, OwnR.recs cPoint_len h.points, OwnR.recs cSpell_len h.spells, OwnR.recs cEvent_len h.events⟩
end

/-- The same handed back, its row new. -/
def RetBook (w : World) (L : List TRule) (e : Ending) (w' : World) : Prop := ∃ A c, e = .returned (.agg #[.slice A L.length c]) ∧ OwnRules w' w.heap.size (.slice A L.length c) L ∧ Same w w'
set_option maxRecDepth 10000 in
set_option maxHeartbeats 1000000 in
theorem toBook_any (A : Option Addr) (c : Nat) (L : List TRule) (w : World) (hz : L.length ≤ 1048576) (hN : SmallR L 1048576) (hA : RulesAt w A L) :
    Calls Tryz.prog 84 #[.agg #[.slice A L.length c]] w (RetBook w L) := by
  go_enter Tryz.func84, Tryz.ntmps84
  go_wp2_with fail
  have h1 : BoxAt (((w.alloc (.cells #[.slice A L.length c] 61)).alloc (.cells #[.slice none 0 0] 26)).alloc (.cells #[.slice none 0 0] 26)) (w.heap.size) 61 [.slice A L.length c] := by simpa using (BoxAt.alloc (BoxAt.alloc (BoxAt.new w 61 [.slice A L.length c]) (.cells #[.slice none 0 0] 26)) (.cells #[.slice none 0 0] 26))
  have h2 : BoxAt (((w.alloc (.cells #[.slice A L.length c] 61)).alloc (.cells #[.slice none 0 0] 26)).alloc (.cells #[.slice none 0 0] 26)) (w.heap.size + 1) 26 [.slice none 0 0] := by simpa using (BoxAt.alloc (BoxAt.new (w.alloc (.cells #[.slice A L.length c] 61)) 26 [.slice none 0 0]) (.cells #[.slice none 0 0] 26))
  have h3 : BoxAt (((w.alloc (.cells #[.slice A L.length c] 61)).alloc (.cells #[.slice none 0 0] 26)).alloc (.cells #[.slice none 0 0] 26)) (w.heap.size + 1 + 1) 26 [.slice none 0 0] := by simpa using (BoxAt.new ((w.alloc (.cells #[.slice A L.length c] 61)).alloc (.cells #[.slice none 0 0] 26)) 26 [.slice none 0 0])
  have hs0 := (Same.alloc (Same.alloc (Same.alloc (Same.refl w) (.cells #[.slice A L.length c] 61)) (.cells #[.slice none 0 0] 26)) (.cells #[.slice none 0 0] 26))
  generalize (((w.alloc (.cells #[.slice A L.length c] 61)).alloc (.cells #[.slice none 0 0] 26)).alloc (.cells #[.slice none 0 0] 26)) = w0 at *
  have n0 := hs0.size
  have nn := h3.lt
  have a0 := h1.cell 0 rfl
  refine (toRuleS_any A c L _ hz hN (hA.same hs0)).mono ?_
  rintro e w1 ⟨rfl, o, hs1⟩
  have S1 := hs0.trans hs1
  have m1 := hs1.size
  clear a0
  replace h1 := h1.same hs1
  replace h2 := h2.same hs1
  replace h3 := h3.same hs1
  replace o := OwnRules.rebase o (by omega : w0.heap.size ≤ _)
  have d0_0 := h3.cell 0 rfl
  have f0_0 := h3.frozen 0
  replace h1 := h1.other (k := (w.heap.size + 1 + 1)) (j := 0) (.slice (some ⟨w0.heap.size, 0, none⟩) L.length L.length) (by omega)
  replace h2 := h2.other (k := (w.heap.size + 1 + 1)) (j := 0) (.slice (some ⟨w0.heap.size, 0, none⟩) L.length L.length) (by omega)
  replace h3 := h3.set 0 (.slice (some ⟨w0.heap.size, 0, none⟩) L.length L.length)
  replace o := OwnRules.put o (w.heap.size + 1 + 1) 0 (.slice (some ⟨w0.heap.size, 0, none⟩) L.length L.length) (by omega)
  replace S1 := S1.setCell (p := ⟨(w.heap.size + 1 + 1), 0, none⟩) (by first | (simp; done) | (simp; omega) | omega) (.slice (some ⟨w0.heap.size, 0, none⟩) L.length L.length)
  have q1 : w0.heap.size ≤ (w1.setCell ⟨(w.heap.size + 1 + 1), 0, none⟩ (.slice (some ⟨w0.heap.size, 0, none⟩) L.length L.length)).heap.size := by first | (simp; done) | (simp; omega) | omega
  have o0 := h3.cell 0 rfl
  have r0 := h2.cell 0 rfl
  have g0 := h2.frozen 0
  have hx := (h2.set 0 (.slice (some ⟨w0.heap.size, 0, none⟩) L.length L.length))
  have x0 := hx.cell 0 rfl
  replace o := OwnRules.put o (w.heap.size + 1) 0 (.slice (some ⟨w0.heap.size, 0, none⟩) L.length L.length) (by omega)
  have ST := (S1.setCell (p := ⟨(w.heap.size + 1), 0, none⟩) (by first | (simp; done) | (simp; omega) | omega) (.slice (some ⟨w0.heap.size, 0, none⟩) L.length L.length))
  clear hx h1 h2 h3
  go_wp2
  exact bodyPost_ret (v := .agg #[.slice (some ⟨w0.heap.size, 0, none⟩) L.length L.length]) (by simp [results, Tryz.results84, go_sem, x0]) rfl ⟨_, _, rfl, OwnRules.rebase o (by omega), ST⟩

set_option maxHeartbeats 400000 in
theorem eqBook_same (A B : Option Addr) (c d : Nat) (L : List TRule) (w : World) (hz : L.length ≤ 9223372036854775807) (hN : SmallR L 9223372036854775807) (hA : RulesAt w A L) (hB : RulesAt w B L) :
    Calls Tryz.prog 89 #[.agg #[.slice A L.length c], .agg #[.slice B L.length d]] w fun e w' => e = .returned (.bool true) ∧ Same w w' := by
  go_enter Tryz.func89, Tryz.ntmps89
  go_wp2_with fail
  refine (eqRuleS_same A B c d L _ hz hN (hA.same (((Same.refl w).alloc _).alloc _)) (hB.same (((Same.refl w).alloc _).alloc _))).mono ?_
  rintro e w1 ⟨rfl, hs1⟩
  go_wp2
  go_ret
  exact ⟨rfl, (((Same.refl w).alloc _).alloc _).trans hs1⟩

/-- The same handed back, its row new. -/
def RetStore (w : World) (L : List TFact) (e : Ending) (w' : World) : Prop := ∃ A c, e = .returned (.agg #[.slice A L.length c]) ∧ OwnFact w' w.heap.size (.slice A L.length c) L ∧ Same w w'
set_option maxRecDepth 10000 in
set_option maxHeartbeats 1000000 in
theorem toStore_any (A : Option Addr) (c : Nat) (L : List TFact) (w : World) (hz : L.length ≤ 1048576) (hA : AtFact w A L) :
    Calls Tryz.prog 85 #[.agg #[.slice A L.length c]] w (RetStore w L) := by
  go_enter Tryz.func85, Tryz.ntmps85
  go_wp2_with fail
  have h1 : BoxAt (((w.alloc (.cells #[.slice A L.length c] 64)).alloc (.cells #[.slice none 0 0] 29)).alloc (.cells #[.slice none 0 0] 29)) (w.heap.size) 64 [.slice A L.length c] := by simpa using (BoxAt.alloc (BoxAt.alloc (BoxAt.new w 64 [.slice A L.length c]) (.cells #[.slice none 0 0] 29)) (.cells #[.slice none 0 0] 29))
  have h2 : BoxAt (((w.alloc (.cells #[.slice A L.length c] 64)).alloc (.cells #[.slice none 0 0] 29)).alloc (.cells #[.slice none 0 0] 29)) (w.heap.size + 1) 29 [.slice none 0 0] := by simpa using (BoxAt.alloc (BoxAt.new (w.alloc (.cells #[.slice A L.length c] 64)) 29 [.slice none 0 0]) (.cells #[.slice none 0 0] 29))
  have h3 : BoxAt (((w.alloc (.cells #[.slice A L.length c] 64)).alloc (.cells #[.slice none 0 0] 29)).alloc (.cells #[.slice none 0 0] 29)) (w.heap.size + 1 + 1) 29 [.slice none 0 0] := by simpa using (BoxAt.new ((w.alloc (.cells #[.slice A L.length c] 64)).alloc (.cells #[.slice none 0 0] 29)) 29 [.slice none 0 0])
  have hs0 := (Same.alloc (Same.alloc (Same.alloc (Same.refl w) (.cells #[.slice A L.length c] 64)) (.cells #[.slice none 0 0] 29)) (.cells #[.slice none 0 0] 29))
  generalize (((w.alloc (.cells #[.slice A L.length c] 64)).alloc (.cells #[.slice none 0 0] 29)).alloc (.cells #[.slice none 0 0] 29)) = w0 at *
  have n0 := hs0.size
  have nn := h3.lt
  have a0 := h1.cell 0 rfl
  refine (toFactS_any A c L _ hz (hA.same hs0)).mono ?_
  rintro e w1 ⟨rfl, o, hs1⟩
  have S1 := hs0.trans hs1
  have m1 := hs1.size
  clear a0
  replace h1 := h1.same hs1
  replace h2 := h2.same hs1
  replace h3 := h3.same hs1
  replace o := OwnR.rebase o (by omega : w0.heap.size ≤ _)
  have d0_0 := h3.cell 0 rfl
  have f0_0 := h3.frozen 0
  replace h1 := h1.other (k := (w.heap.size + 1 + 1)) (j := 0) (.slice (some ⟨w0.heap.size, 0, none⟩) L.length L.length) (by omega)
  replace h2 := h2.other (k := (w.heap.size + 1 + 1)) (j := 0) (.slice (some ⟨w0.heap.size, 0, none⟩) L.length L.length) (by omega)
  replace h3 := h3.set 0 (.slice (some ⟨w0.heap.size, 0, none⟩) L.length L.length)
  replace o := OwnR.put o (w.heap.size + 1 + 1) 0 (.slice (some ⟨w0.heap.size, 0, none⟩) L.length L.length) (by omega)
  replace S1 := S1.setCell (p := ⟨(w.heap.size + 1 + 1), 0, none⟩) (by first | (simp; done) | (simp; omega) | omega) (.slice (some ⟨w0.heap.size, 0, none⟩) L.length L.length)
  have q1 : w0.heap.size ≤ (w1.setCell ⟨(w.heap.size + 1 + 1), 0, none⟩ (.slice (some ⟨w0.heap.size, 0, none⟩) L.length L.length)).heap.size := by first | (simp; done) | (simp; omega) | omega
  have o0 := h3.cell 0 rfl
  have r0 := h2.cell 0 rfl
  have g0 := h2.frozen 0
  have hx := (h2.set 0 (.slice (some ⟨w0.heap.size, 0, none⟩) L.length L.length))
  have x0 := hx.cell 0 rfl
  replace o := OwnR.put o (w.heap.size + 1) 0 (.slice (some ⟨w0.heap.size, 0, none⟩) L.length L.length) (by omega)
  have ST := (S1.setCell (p := ⟨(w.heap.size + 1), 0, none⟩) (by first | (simp; done) | (simp; omega) | omega) (.slice (some ⟨w0.heap.size, 0, none⟩) L.length L.length))
  clear hx h1 h2 h3
  go_wp2
  exact bodyPost_ret (v := .agg #[.slice (some ⟨w0.heap.size, 0, none⟩) L.length L.length]) (by simp [results, Tryz.results85, go_sem, x0]) rfl ⟨_, _, rfl, OwnR.rebase o (by omega), ST⟩

set_option maxHeartbeats 400000 in
theorem eqStore_same (A B : Option Addr) (c d : Nat) (L : List TFact) (w : World) (hz : L.length ≤ 9223372036854775807) (hA : AtFact w A L) (hB : AtFact w B L) :
    Calls Tryz.prog 90 #[.agg #[.slice A L.length c], .agg #[.slice B L.length d]] w fun e w' => e = .returned (.bool true) ∧ Same w w' := by
  go_enter Tryz.func90, Tryz.ntmps90
  go_wp2_with fail
  refine (eqFactS_same A B c d L _ hz (hA.same (((Same.refl w).alloc _).alloc _)) (hB.same (((Same.refl w).alloc _).alloc _))).mono ?_
  rintro e w1 ⟨rfl, hs1⟩
  go_wp2
  go_ret
  exact ⟨rfl, (((Same.refl w).alloc _).alloc _).trans hs1⟩

/-- The same handed back, its row new. -/
def RetSeries (w : World) (L : List TPoint) (e : Ending) (w' : World) : Prop := ∃ A c, e = .returned (.agg #[.slice A L.length c]) ∧ OwnPoint w' w.heap.size (.slice A L.length c) L ∧ Same w w'
set_option maxRecDepth 10000 in
set_option maxHeartbeats 1000000 in
theorem toSeries_any (A : Option Addr) (c : Nat) (L : List TPoint) (w : World) (hz : L.length ≤ 1048576) (hA : AtPoint w A L) :
    Calls Tryz.prog 86 #[.agg #[.slice A L.length c]] w (RetSeries w L) := by
  go_enter Tryz.func86, Tryz.ntmps86
  go_wp2_with fail
  have h1 : BoxAt (((w.alloc (.cells #[.slice A L.length c] 67)).alloc (.cells #[.slice none 0 0] 32)).alloc (.cells #[.slice none 0 0] 32)) (w.heap.size) 67 [.slice A L.length c] := by simpa using (BoxAt.alloc (BoxAt.alloc (BoxAt.new w 67 [.slice A L.length c]) (.cells #[.slice none 0 0] 32)) (.cells #[.slice none 0 0] 32))
  have h2 : BoxAt (((w.alloc (.cells #[.slice A L.length c] 67)).alloc (.cells #[.slice none 0 0] 32)).alloc (.cells #[.slice none 0 0] 32)) (w.heap.size + 1) 32 [.slice none 0 0] := by simpa using (BoxAt.alloc (BoxAt.new (w.alloc (.cells #[.slice A L.length c] 67)) 32 [.slice none 0 0]) (.cells #[.slice none 0 0] 32))
  have h3 : BoxAt (((w.alloc (.cells #[.slice A L.length c] 67)).alloc (.cells #[.slice none 0 0] 32)).alloc (.cells #[.slice none 0 0] 32)) (w.heap.size + 1 + 1) 32 [.slice none 0 0] := by simpa using (BoxAt.new ((w.alloc (.cells #[.slice A L.length c] 67)).alloc (.cells #[.slice none 0 0] 32)) 32 [.slice none 0 0])
  have hs0 := (Same.alloc (Same.alloc (Same.alloc (Same.refl w) (.cells #[.slice A L.length c] 67)) (.cells #[.slice none 0 0] 32)) (.cells #[.slice none 0 0] 32))
  generalize (((w.alloc (.cells #[.slice A L.length c] 67)).alloc (.cells #[.slice none 0 0] 32)).alloc (.cells #[.slice none 0 0] 32)) = w0 at *
  have n0 := hs0.size
  have nn := h3.lt
  have a0 := h1.cell 0 rfl
  refine (toPointS_any A c L _ hz (hA.same hs0)).mono ?_
  rintro e w1 ⟨rfl, o, hs1⟩
  have S1 := hs0.trans hs1
  have m1 := hs1.size
  clear a0
  replace h1 := h1.same hs1
  replace h2 := h2.same hs1
  replace h3 := h3.same hs1
  replace o := OwnR.rebase o (by omega : w0.heap.size ≤ _)
  have d0_0 := h3.cell 0 rfl
  have f0_0 := h3.frozen 0
  replace h1 := h1.other (k := (w.heap.size + 1 + 1)) (j := 0) (.slice (some ⟨w0.heap.size, 0, none⟩) L.length L.length) (by omega)
  replace h2 := h2.other (k := (w.heap.size + 1 + 1)) (j := 0) (.slice (some ⟨w0.heap.size, 0, none⟩) L.length L.length) (by omega)
  replace h3 := h3.set 0 (.slice (some ⟨w0.heap.size, 0, none⟩) L.length L.length)
  replace o := OwnR.put o (w.heap.size + 1 + 1) 0 (.slice (some ⟨w0.heap.size, 0, none⟩) L.length L.length) (by omega)
  replace S1 := S1.setCell (p := ⟨(w.heap.size + 1 + 1), 0, none⟩) (by first | (simp; done) | (simp; omega) | omega) (.slice (some ⟨w0.heap.size, 0, none⟩) L.length L.length)
  have q1 : w0.heap.size ≤ (w1.setCell ⟨(w.heap.size + 1 + 1), 0, none⟩ (.slice (some ⟨w0.heap.size, 0, none⟩) L.length L.length)).heap.size := by first | (simp; done) | (simp; omega) | omega
  have o0 := h3.cell 0 rfl
  have r0 := h2.cell 0 rfl
  have g0 := h2.frozen 0
  have hx := (h2.set 0 (.slice (some ⟨w0.heap.size, 0, none⟩) L.length L.length))
  have x0 := hx.cell 0 rfl
  replace o := OwnR.put o (w.heap.size + 1) 0 (.slice (some ⟨w0.heap.size, 0, none⟩) L.length L.length) (by omega)
  have ST := (S1.setCell (p := ⟨(w.heap.size + 1), 0, none⟩) (by first | (simp; done) | (simp; omega) | omega) (.slice (some ⟨w0.heap.size, 0, none⟩) L.length L.length))
  clear hx h1 h2 h3
  go_wp2
  exact bodyPost_ret (v := .agg #[.slice (some ⟨w0.heap.size, 0, none⟩) L.length L.length]) (by simp [results, Tryz.results86, go_sem, x0]) rfl ⟨_, _, rfl, OwnR.rebase o (by omega), ST⟩

set_option maxHeartbeats 400000 in
theorem eqSeries_same (A B : Option Addr) (c d : Nat) (L : List TPoint) (w : World) (hz : L.length ≤ 9223372036854775807) (hA : AtPoint w A L) (hB : AtPoint w B L) :
    Calls Tryz.prog 91 #[.agg #[.slice A L.length c], .agg #[.slice B L.length d]] w fun e w' => e = .returned (.bool true) ∧ Same w w' := by
  go_enter Tryz.func91, Tryz.ntmps91
  go_wp2_with fail
  refine (eqPointS_same A B c d L _ hz (hA.same (((Same.refl w).alloc _).alloc _)) (hB.same (((Same.refl w).alloc _).alloc _))).mono ?_
  rintro e w1 ⟨rfl, hs1⟩
  go_wp2
  go_ret
  exact ⟨rfl, (((Same.refl w).alloc _).alloc _).trans hs1⟩

/-- A member handed back, its rows new. -/
def RetMember (w : World) (birth joined : Int) (S : List TSpell) (E : List TEvent) (e : Ending) (w' : World) : Prop :=
  ∃ A c B d, e = .returned (.agg #[.int .i64 birth, .int .i64 joined, .slice A S.length c, .slice B E.length d]) ∧ OwnSpell w' w.heap.size (.slice A S.length c) S ∧ OwnEvent w' w.heap.size (.slice B E.length d) E ∧ Same w w'
set_option maxRecDepth 10000 in
set_option maxHeartbeats 1000000 in
theorem toMember_any (birth joined : Int) (A : Option Addr) (c : Nat) (S : List TSpell) (B : Option Addr) (d : Nat) (E : List TEvent) (w : World) (hS : S.length ≤ 1048576) (hE : E.length ≤ 1048576) (hA : AtSpell w A S) (hB : AtEvent w B E) :
    Calls Tryz.prog 87 #[.agg #[.int .i64 birth, .int .i64 joined, .slice A S.length c, .slice B E.length d]] w (RetMember w birth joined S E) := by
  go_enter Tryz.func87, Tryz.ntmps87
  go_wp2_with fail
  have h1 : BoxAt (((w.alloc (.cells #[.int .i64 birth, .int .i64 joined, .slice A S.length c, .slice B E.length d] 71)).alloc (.cells #[.int .i64 0, .int .i64 0, .slice none 0 0, .slice none 0 0] 36)).alloc (.cells #[.int .i64 birth, .int .i64 joined, .slice none 0 0, .slice none 0 0] 36)) (w.heap.size) 71 [.int .i64 birth, .int .i64 joined, .slice A S.length c, .slice B E.length d] := by simpa using (BoxAt.alloc (BoxAt.alloc (BoxAt.new w 71 [.int .i64 birth, .int .i64 joined, .slice A S.length c, .slice B E.length d]) (.cells #[.int .i64 0, .int .i64 0, .slice none 0 0, .slice none 0 0] 36)) (.cells #[.int .i64 birth, .int .i64 joined, .slice none 0 0, .slice none 0 0] 36))
  have h2 : BoxAt (((w.alloc (.cells #[.int .i64 birth, .int .i64 joined, .slice A S.length c, .slice B E.length d] 71)).alloc (.cells #[.int .i64 0, .int .i64 0, .slice none 0 0, .slice none 0 0] 36)).alloc (.cells #[.int .i64 birth, .int .i64 joined, .slice none 0 0, .slice none 0 0] 36)) (w.heap.size + 1) 36 [.int .i64 0, .int .i64 0, .slice none 0 0, .slice none 0 0] := by simpa using (BoxAt.alloc (BoxAt.new (w.alloc (.cells #[.int .i64 birth, .int .i64 joined, .slice A S.length c, .slice B E.length d] 71)) 36 [.int .i64 0, .int .i64 0, .slice none 0 0, .slice none 0 0]) (.cells #[.int .i64 birth, .int .i64 joined, .slice none 0 0, .slice none 0 0] 36))
  have h3 : BoxAt (((w.alloc (.cells #[.int .i64 birth, .int .i64 joined, .slice A S.length c, .slice B E.length d] 71)).alloc (.cells #[.int .i64 0, .int .i64 0, .slice none 0 0, .slice none 0 0] 36)).alloc (.cells #[.int .i64 birth, .int .i64 joined, .slice none 0 0, .slice none 0 0] 36)) (w.heap.size + 1 + 1) 36 [.int .i64 birth, .int .i64 joined, .slice none 0 0, .slice none 0 0] := by simpa using (BoxAt.new ((w.alloc (.cells #[.int .i64 birth, .int .i64 joined, .slice A S.length c, .slice B E.length d] 71)).alloc (.cells #[.int .i64 0, .int .i64 0, .slice none 0 0, .slice none 0 0] 36)) 36 [.int .i64 birth, .int .i64 joined, .slice none 0 0, .slice none 0 0])
  have hs0 := (Same.alloc (Same.alloc (Same.alloc (Same.refl w) (.cells #[.int .i64 birth, .int .i64 joined, .slice A S.length c, .slice B E.length d] 71)) (.cells #[.int .i64 0, .int .i64 0, .slice none 0 0, .slice none 0 0] 36)) (.cells #[.int .i64 birth, .int .i64 joined, .slice none 0 0, .slice none 0 0] 36))
  generalize (((w.alloc (.cells #[.int .i64 birth, .int .i64 joined, .slice A S.length c, .slice B E.length d] 71)).alloc (.cells #[.int .i64 0, .int .i64 0, .slice none 0 0, .slice none 0 0] 36)).alloc (.cells #[.int .i64 birth, .int .i64 joined, .slice none 0 0, .slice none 0 0] 36)) = w0 at *
  have n0 := hs0.size
  have nn := h3.lt
  have a0 := h1.cell 2 rfl
  refine (toSpellS_any A c S _ hS (hA.same hs0)).mono ?_
  rintro e w1 ⟨rfl, o, hs1⟩
  have S1 := hs0.trans hs1
  have m1 := hs1.size
  clear a0
  replace h1 := h1.same hs1
  replace h2 := h2.same hs1
  replace h3 := h3.same hs1
  replace o := OwnR.rebase o (by omega : w0.heap.size ≤ _)
  have d0_0 := h3.cell 2 rfl
  have f0_0 := h3.frozen 2
  replace h1 := h1.other (k := (w.heap.size + 1 + 1)) (j := 2) (.slice (some ⟨w0.heap.size, 0, none⟩) S.length S.length) (by omega)
  replace h2 := h2.other (k := (w.heap.size + 1 + 1)) (j := 2) (.slice (some ⟨w0.heap.size, 0, none⟩) S.length S.length) (by omega)
  replace h3 := h3.set 2 (.slice (some ⟨w0.heap.size, 0, none⟩) S.length S.length)
  replace o := OwnR.put o (w.heap.size + 1 + 1) 2 (.slice (some ⟨w0.heap.size, 0, none⟩) S.length S.length) (by omega)
  replace S1 := S1.setCell (p := ⟨(w.heap.size + 1 + 1), 2, none⟩) (by first | (simp; done) | (simp; omega) | omega) (.slice (some ⟨w0.heap.size, 0, none⟩) S.length S.length)
  have q1 : w0.heap.size ≤ (w1.setCell ⟨(w.heap.size + 1 + 1), 2, none⟩ (.slice (some ⟨w0.heap.size, 0, none⟩) S.length S.length)).heap.size := by first | (simp; done) | (simp; omega) | omega
  have a0 := h1.cell 3 rfl
  go_wp2_with fail
  clear d0_0 f0_0
  generalize w1.setCell ⟨(w.heap.size + 1 + 1), 2, none⟩ (.slice (some ⟨w0.heap.size, 0, none⟩) S.length S.length) = v1 at *
  refine (toEventS_any B d E _ hE (hB.same S1)).mono ?_
  rintro e w2 ⟨rfl, q, hs2⟩
  have S2 := S1.trans hs2
  have m2 := hs2.size
  clear a0
  replace h1 := h1.same hs2
  replace h2 := h2.same hs2
  replace h3 := h3.same hs2
  replace o := o.same hs2
  replace q := OwnR.rebase q (by omega : w0.heap.size ≤ _)
  have d1_0 := h3.cell 3 rfl
  have f1_0 := h3.frozen 3
  replace h1 := h1.other (k := (w.heap.size + 1 + 1)) (j := 3) (.slice (some ⟨v1.heap.size, 0, none⟩) E.length E.length) (by omega)
  replace h2 := h2.other (k := (w.heap.size + 1 + 1)) (j := 3) (.slice (some ⟨v1.heap.size, 0, none⟩) E.length E.length) (by omega)
  replace h3 := h3.set 3 (.slice (some ⟨v1.heap.size, 0, none⟩) E.length E.length)
  replace o := OwnR.put o (w.heap.size + 1 + 1) 3 (.slice (some ⟨v1.heap.size, 0, none⟩) E.length E.length) (by omega)
  replace q := OwnR.put q (w.heap.size + 1 + 1) 3 (.slice (some ⟨v1.heap.size, 0, none⟩) E.length E.length) (by omega)
  replace S2 := S2.setCell (p := ⟨(w.heap.size + 1 + 1), 3, none⟩) (by first | (simp; done) | (simp; omega) | omega) (.slice (some ⟨v1.heap.size, 0, none⟩) E.length E.length)
  have q2 : w0.heap.size ≤ (w2.setCell ⟨(w.heap.size + 1 + 1), 3, none⟩ (.slice (some ⟨v1.heap.size, 0, none⟩) E.length E.length)).heap.size := by first | (simp; done) | (simp; omega) | omega
  have o0 := h3.cell 0 rfl
  have o1 := h3.cell 1 rfl
  have o2 := h3.cell 2 rfl
  have o3 := h3.cell 3 rfl
  have r0 := h2.cell 0 rfl
  have g0 := h2.frozen 0
  have r1 := h2.cell 1 rfl
  have g1 := h2.frozen 1
  have r2 := h2.cell 2 rfl
  have g2 := h2.frozen 2
  have r3 := h2.cell 3 rfl
  have g3 := h2.frozen 3
  have hx := ((((h2.set 0 (.int .i64 birth)).set 1 (.int .i64 joined)).set 2 (.slice (some ⟨w0.heap.size, 0, none⟩) S.length S.length)).set 3 (.slice (some ⟨v1.heap.size, 0, none⟩) E.length E.length))
  have x0 := hx.cell 0 rfl
  have x1 := hx.cell 1 rfl
  have x2 := hx.cell 2 rfl
  have x3 := hx.cell 3 rfl
  replace o := OwnR.put o (w.heap.size + 1) 0 (.int .i64 birth) (by omega)
  replace q := OwnR.put q (w.heap.size + 1) 0 (.int .i64 birth) (by omega)
  replace o := OwnR.put o (w.heap.size + 1) 1 (.int .i64 joined) (by omega)
  replace q := OwnR.put q (w.heap.size + 1) 1 (.int .i64 joined) (by omega)
  replace o := OwnR.put o (w.heap.size + 1) 2 (.slice (some ⟨w0.heap.size, 0, none⟩) S.length S.length) (by omega)
  replace q := OwnR.put q (w.heap.size + 1) 2 (.slice (some ⟨w0.heap.size, 0, none⟩) S.length S.length) (by omega)
  replace o := OwnR.put o (w.heap.size + 1) 3 (.slice (some ⟨v1.heap.size, 0, none⟩) E.length E.length) (by omega)
  replace q := OwnR.put q (w.heap.size + 1) 3 (.slice (some ⟨v1.heap.size, 0, none⟩) E.length E.length) (by omega)
  have ST := ((((S2.setCell (p := ⟨(w.heap.size + 1), 0, none⟩) (by first | (simp; done) | (simp; omega) | omega) (.int .i64 birth)).setCell (p := ⟨(w.heap.size + 1), 1, none⟩) (by first | (simp; done) | (simp; omega) | omega) (.int .i64 joined)).setCell (p := ⟨(w.heap.size + 1), 2, none⟩) (by first | (simp; done) | (simp; omega) | omega) (.slice (some ⟨w0.heap.size, 0, none⟩) S.length S.length)).setCell (p := ⟨(w.heap.size + 1), 3, none⟩) (by first | (simp; done) | (simp; omega) | omega) (.slice (some ⟨v1.heap.size, 0, none⟩) E.length E.length))
  clear hx h1 h2 h3
  go_wp2
  exact bodyPost_ret (v := .agg #[.int .i64 birth, .int .i64 joined, .slice (some ⟨w0.heap.size, 0, none⟩) S.length S.length, .slice (some ⟨v1.heap.size, 0, none⟩) E.length E.length]) (by simp [results, Tryz.results87, go_sem, x0, x1, x2, x3]) rfl ⟨_, _, _, _, rfl, OwnR.rebase o (by omega), OwnR.rebase q (by omega), ST⟩

set_option maxHeartbeats 400000 in
theorem eqMember_same (birth joined : Int) (A A' : Option Addr) (c c' : Nat) (S : List TSpell) (B B' : Option Addr) (d d' : Nat) (E : List TEvent) (w : World) (hS : S.length ≤ 9223372036854775807) (hE : E.length ≤ 9223372036854775807)
    (hA : AtSpell w A S) (hA' : AtSpell w A' S) (hB : AtEvent w B E) (hB' : AtEvent w B' E) :
    Calls Tryz.prog 92 #[.agg #[.int .i64 birth, .int .i64 joined, .slice A S.length c, .slice B E.length d], .agg #[.int .i64 birth, .int .i64 joined, .slice A' S.length c', .slice B' E.length d']] w fun e w' => e = .returned (.bool true) ∧ Same w w' := by
  have b0 : (birth != birth) = false := by simp
  have b1 : (joined != joined) = false := by simp
  go_enter Tryz.func92, Tryz.ntmps92
  go_wp2_with fail
  have h1 : BoxAt ((w.alloc (.cells #[.int .i64 birth, .int .i64 joined, .slice A S.length c, .slice B E.length d] 36)).alloc (.cells #[.int .i64 birth, .int .i64 joined, .slice A' S.length c', .slice B' E.length d'] 36)) (w.heap.size) 36 [.int .i64 birth, .int .i64 joined, .slice A S.length c, .slice B E.length d] := by simpa using (BoxAt.alloc (BoxAt.new w 36 [.int .i64 birth, .int .i64 joined, .slice A S.length c, .slice B E.length d]) (.cells #[.int .i64 birth, .int .i64 joined, .slice A' S.length c', .slice B' E.length d'] 36))
  have h2 : BoxAt ((w.alloc (.cells #[.int .i64 birth, .int .i64 joined, .slice A S.length c, .slice B E.length d] 36)).alloc (.cells #[.int .i64 birth, .int .i64 joined, .slice A' S.length c', .slice B' E.length d'] 36)) (w.heap.size + 1) 36 [.int .i64 birth, .int .i64 joined, .slice A' S.length c', .slice B' E.length d'] := by simpa using (BoxAt.new (w.alloc (.cells #[.int .i64 birth, .int .i64 joined, .slice A S.length c, .slice B E.length d] 36)) 36 [.int .i64 birth, .int .i64 joined, .slice A' S.length c', .slice B' E.length d'])
  have hs0 := (Same.alloc (Same.alloc (Same.refl w) (.cells #[.int .i64 birth, .int .i64 joined, .slice A S.length c, .slice B E.length d] 36)) (.cells #[.int .i64 birth, .int .i64 joined, .slice A' S.length c', .slice B' E.length d'] 36))
  generalize ((w.alloc (.cells #[.int .i64 birth, .int .i64 joined, .slice A S.length c, .slice B E.length d] 36)).alloc (.cells #[.int .i64 birth, .int .i64 joined, .slice A' S.length c', .slice B' E.length d'] 36)) = w0 at *
  refine (eqSpellS_same A A' c c' S _ hS (hA.same hs0) (hA'.same hs0)).mono ?_
  rintro e w1 ⟨rfl, hs1⟩
  have a0 := (h1.same hs1).cell 3 rfl
  have a1 := (h2.same hs1).cell 3 rfl
  go_wp2_with fail
  refine (eqEventS_same B B' d d' E _ hE ((hB.same hs0).same hs1) ((hB'.same hs0).same hs1)).mono ?_
  rintro e w2 ⟨rfl, hs2⟩
  clear a0 a1
  go_wp2
  go_ret
  exact ⟨rfl, (hs0.trans hs1).trans hs2⟩

/-- A case handed back, its rows new. -/
def RetCase (w : World) (D : TCase) (e : Ending) (w' : World) : Prop :=
  ∃ m : CMem, e = .returned (.agg #[.slice m.r D.R.length m.rc, .slice m.f D.F.length m.fc, .slice m.p D.P.length m.pc, .int .i64 D.birth, .int .i64 D.joined, .slice m.s D.S.length m.sc, .slice m.e D.E.length m.ec]) ∧ CaseOwn w' w.heap.size D m ∧ Same w w'
set_option maxRecDepth 10000 in
set_option maxHeartbeats 4000000 in
theorem toCase_any (D : TCase) (m : CMem) (w : World) (hD : D.Small 1048576) (hA : CaseAt w D m) :
    Calls Tryz.prog 28 #[.agg #[.slice m.r D.R.length m.rc, .slice m.f D.F.length m.fc, .slice m.p D.P.length m.pc, .int .i64 D.birth, .int .i64 D.joined, .slice m.s D.S.length m.sc, .slice m.e D.E.length m.ec]] w (RetCase w D) := by
  go_enter Tryz.func28, Tryz.ntmps28
  go_wp2_with fail
  have h1 : BoxAt (((w.alloc (.cells #[.slice m.r D.R.length m.rc, .slice m.f D.F.length m.fc, .slice m.p D.P.length m.pc, .int .i64 D.birth, .int .i64 D.joined, .slice m.s D.S.length m.sc, .slice m.e D.E.length m.ec] 73)).alloc (.cells #[.slice none 0 0, .slice none 0 0, .slice none 0 0, .int .i64 0, .int .i64 0, .slice none 0 0, .slice none 0 0] 38)).alloc (.cells #[.slice none 0 0, .slice none 0 0, .slice none 0 0, .int .i64 0, .int .i64 0, .slice none 0 0, .slice none 0 0] 38)) (w.heap.size) 73 [.slice m.r D.R.length m.rc, .slice m.f D.F.length m.fc, .slice m.p D.P.length m.pc, .int .i64 D.birth, .int .i64 D.joined, .slice m.s D.S.length m.sc, .slice m.e D.E.length m.ec] := by simpa using (BoxAt.alloc (BoxAt.alloc (BoxAt.new w 73 [.slice m.r D.R.length m.rc, .slice m.f D.F.length m.fc, .slice m.p D.P.length m.pc, .int .i64 D.birth, .int .i64 D.joined, .slice m.s D.S.length m.sc, .slice m.e D.E.length m.ec]) (.cells #[.slice none 0 0, .slice none 0 0, .slice none 0 0, .int .i64 0, .int .i64 0, .slice none 0 0, .slice none 0 0] 38)) (.cells #[.slice none 0 0, .slice none 0 0, .slice none 0 0, .int .i64 0, .int .i64 0, .slice none 0 0, .slice none 0 0] 38))
  have h2 : BoxAt (((w.alloc (.cells #[.slice m.r D.R.length m.rc, .slice m.f D.F.length m.fc, .slice m.p D.P.length m.pc, .int .i64 D.birth, .int .i64 D.joined, .slice m.s D.S.length m.sc, .slice m.e D.E.length m.ec] 73)).alloc (.cells #[.slice none 0 0, .slice none 0 0, .slice none 0 0, .int .i64 0, .int .i64 0, .slice none 0 0, .slice none 0 0] 38)).alloc (.cells #[.slice none 0 0, .slice none 0 0, .slice none 0 0, .int .i64 0, .int .i64 0, .slice none 0 0, .slice none 0 0] 38)) (w.heap.size + 1) 38 [.slice none 0 0, .slice none 0 0, .slice none 0 0, .int .i64 0, .int .i64 0, .slice none 0 0, .slice none 0 0] := by simpa using (BoxAt.alloc (BoxAt.new (w.alloc (.cells #[.slice m.r D.R.length m.rc, .slice m.f D.F.length m.fc, .slice m.p D.P.length m.pc, .int .i64 D.birth, .int .i64 D.joined, .slice m.s D.S.length m.sc, .slice m.e D.E.length m.ec] 73)) 38 [.slice none 0 0, .slice none 0 0, .slice none 0 0, .int .i64 0, .int .i64 0, .slice none 0 0, .slice none 0 0]) (.cells #[.slice none 0 0, .slice none 0 0, .slice none 0 0, .int .i64 0, .int .i64 0, .slice none 0 0, .slice none 0 0] 38))
  have h3 : BoxAt (((w.alloc (.cells #[.slice m.r D.R.length m.rc, .slice m.f D.F.length m.fc, .slice m.p D.P.length m.pc, .int .i64 D.birth, .int .i64 D.joined, .slice m.s D.S.length m.sc, .slice m.e D.E.length m.ec] 73)).alloc (.cells #[.slice none 0 0, .slice none 0 0, .slice none 0 0, .int .i64 0, .int .i64 0, .slice none 0 0, .slice none 0 0] 38)).alloc (.cells #[.slice none 0 0, .slice none 0 0, .slice none 0 0, .int .i64 0, .int .i64 0, .slice none 0 0, .slice none 0 0] 38)) (w.heap.size + 1 + 1) 38 [.slice none 0 0, .slice none 0 0, .slice none 0 0, .int .i64 0, .int .i64 0, .slice none 0 0, .slice none 0 0] := by simpa using (BoxAt.new ((w.alloc (.cells #[.slice m.r D.R.length m.rc, .slice m.f D.F.length m.fc, .slice m.p D.P.length m.pc, .int .i64 D.birth, .int .i64 D.joined, .slice m.s D.S.length m.sc, .slice m.e D.E.length m.ec] 73)).alloc (.cells #[.slice none 0 0, .slice none 0 0, .slice none 0 0, .int .i64 0, .int .i64 0, .slice none 0 0, .slice none 0 0] 38)) 38 [.slice none 0 0, .slice none 0 0, .slice none 0 0, .int .i64 0, .int .i64 0, .slice none 0 0, .slice none 0 0])
  have hs0 := (Same.alloc (Same.alloc (Same.alloc (Same.refl w) (.cells #[.slice m.r D.R.length m.rc, .slice m.f D.F.length m.fc, .slice m.p D.P.length m.pc, .int .i64 D.birth, .int .i64 D.joined, .slice m.s D.S.length m.sc, .slice m.e D.E.length m.ec] 73)) (.cells #[.slice none 0 0, .slice none 0 0, .slice none 0 0, .int .i64 0, .int .i64 0, .slice none 0 0, .slice none 0 0] 38)) (.cells #[.slice none 0 0, .slice none 0 0, .slice none 0 0, .int .i64 0, .int .i64 0, .slice none 0 0, .slice none 0 0] 38))
  generalize (((w.alloc (.cells #[.slice m.r D.R.length m.rc, .slice m.f D.F.length m.fc, .slice m.p D.P.length m.pc, .int .i64 D.birth, .int .i64 D.joined, .slice m.s D.S.length m.sc, .slice m.e D.E.length m.ec] 73)).alloc (.cells #[.slice none 0 0, .slice none 0 0, .slice none 0 0, .int .i64 0, .int .i64 0, .slice none 0 0, .slice none 0 0] 38)).alloc (.cells #[.slice none 0 0, .slice none 0 0, .slice none 0 0, .int .i64 0, .int .i64 0, .slice none 0 0, .slice none 0 0] 38)) = w0 at *
  have n0 := hs0.size
  have nn := h3.lt
  have a0 := h1.cell 0 rfl
  refine (toBook_any m.r m.rc D.R _ hD.R hD.N (hA.rules.same hs0)).mono ?_
  rintro e w1 ⟨A1, c1, rfl, k1, hs1⟩
  have S1 := hs0.trans hs1
  have m1 := hs1.size
  clear a0
  replace h1 := h1.same hs1
  replace h2 := h2.same hs1
  replace h3 := h3.same hs1
  replace k1 := OwnRules.rebase k1 (by omega : w0.heap.size ≤ _)
  have d0_0 := h3.cell 0 rfl
  have f0_0 := h3.frozen 0
  replace h1 := h1.other (k := (w.heap.size + 1 + 1)) (j := 0) (.slice A1 D.R.length c1) (by omega)
  replace h2 := h2.other (k := (w.heap.size + 1 + 1)) (j := 0) (.slice A1 D.R.length c1) (by omega)
  replace h3 := h3.set 0 (.slice A1 D.R.length c1)
  replace k1 := OwnRules.put k1 (w.heap.size + 1 + 1) 0 (.slice A1 D.R.length c1) (by omega)
  replace S1 := S1.setCell (p := ⟨(w.heap.size + 1 + 1), 0, none⟩) (by first | (simp; done) | (simp; omega) | omega) (.slice A1 D.R.length c1)
  have q1 : w0.heap.size ≤ (w1.setCell ⟨(w.heap.size + 1 + 1), 0, none⟩ (.slice A1 D.R.length c1)).heap.size := by first | (simp; done) | (simp; omega) | omega
  have a0 := h1.cell 1 rfl
  go_wp2_with fail
  clear d0_0 f0_0
  generalize w1.setCell ⟨(w.heap.size + 1 + 1), 0, none⟩ (.slice A1 D.R.length c1) = v1 at *
  refine (toStore_any m.f m.fc D.F _ hD.F (hA.facts.same S1)).mono ?_
  rintro e w2 ⟨A2, c2, rfl, k2, hs2⟩
  have S2 := S1.trans hs2
  have m2 := hs2.size
  clear a0
  replace h1 := h1.same hs2
  replace h2 := h2.same hs2
  replace h3 := h3.same hs2
  replace k1 := k1.same hs2
  replace k2 := OwnR.rebase k2 (by omega : w0.heap.size ≤ _)
  have d1_0 := h3.cell 1 rfl
  have f1_0 := h3.frozen 1
  replace h1 := h1.other (k := (w.heap.size + 1 + 1)) (j := 1) (.slice A2 D.F.length c2) (by omega)
  replace h2 := h2.other (k := (w.heap.size + 1 + 1)) (j := 1) (.slice A2 D.F.length c2) (by omega)
  replace h3 := h3.set 1 (.slice A2 D.F.length c2)
  replace k1 := OwnRules.put k1 (w.heap.size + 1 + 1) 1 (.slice A2 D.F.length c2) (by omega)
  replace k2 := OwnR.put k2 (w.heap.size + 1 + 1) 1 (.slice A2 D.F.length c2) (by omega)
  replace S2 := S2.setCell (p := ⟨(w.heap.size + 1 + 1), 1, none⟩) (by first | (simp; done) | (simp; omega) | omega) (.slice A2 D.F.length c2)
  have q2 : w0.heap.size ≤ (w2.setCell ⟨(w.heap.size + 1 + 1), 1, none⟩ (.slice A2 D.F.length c2)).heap.size := by first | (simp; done) | (simp; omega) | omega
  have a0 := h1.cell 2 rfl
  go_wp2_with fail
  clear d1_0 f1_0
  generalize w2.setCell ⟨(w.heap.size + 1 + 1), 1, none⟩ (.slice A2 D.F.length c2) = v2 at *
  refine (toSeries_any m.p m.pc D.P _ hD.P (hA.points.same S2)).mono ?_
  rintro e w3 ⟨A3, c3, rfl, k3, hs3⟩
  have S3 := S2.trans hs3
  have m3 := hs3.size
  clear a0
  replace h1 := h1.same hs3
  replace h2 := h2.same hs3
  replace h3 := h3.same hs3
  replace k1 := k1.same hs3
  replace k2 := k2.same hs3
  replace k3 := OwnR.rebase k3 (by omega : w0.heap.size ≤ _)
  have d2_0 := h3.cell 2 rfl
  have f2_0 := h3.frozen 2
  replace h1 := h1.other (k := (w.heap.size + 1 + 1)) (j := 2) (.slice A3 D.P.length c3) (by omega)
  replace h2 := h2.other (k := (w.heap.size + 1 + 1)) (j := 2) (.slice A3 D.P.length c3) (by omega)
  replace h3 := h3.set 2 (.slice A3 D.P.length c3)
  replace k1 := OwnRules.put k1 (w.heap.size + 1 + 1) 2 (.slice A3 D.P.length c3) (by omega)
  replace k2 := OwnR.put k2 (w.heap.size + 1 + 1) 2 (.slice A3 D.P.length c3) (by omega)
  replace k3 := OwnR.put k3 (w.heap.size + 1 + 1) 2 (.slice A3 D.P.length c3) (by omega)
  replace S3 := S3.setCell (p := ⟨(w.heap.size + 1 + 1), 2, none⟩) (by first | (simp; done) | (simp; omega) | omega) (.slice A3 D.P.length c3)
  have q3 : w0.heap.size ≤ (w3.setCell ⟨(w.heap.size + 1 + 1), 2, none⟩ (.slice A3 D.P.length c3)).heap.size := by first | (simp; done) | (simp; omega) | omega
  have a0 := h1.cell 3 rfl
  have a1 := h1.cell 4 rfl
  have a2 := h1.cell 5 rfl
  have a3 := h1.cell 6 rfl
  go_wp2_with fail
  clear d2_0 f2_0
  generalize w3.setCell ⟨(w.heap.size + 1 + 1), 2, none⟩ (.slice A3 D.P.length c3) = v3 at *
  refine (toMember_any D.birth D.joined m.s m.sc D.S m.e m.ec D.E _ hD.S hD.E (hA.spells.same S3) (hA.events.same S3)).mono ?_
  rintro e w4 ⟨A4, c4, A5, c5, rfl, k4, k5, hs4⟩
  have S4 := S3.trans hs4
  have m4 := hs4.size
  clear a0 a1 a2 a3
  replace h1 := h1.same hs4
  replace h2 := h2.same hs4
  replace h3 := h3.same hs4
  replace k1 := k1.same hs4
  replace k2 := k2.same hs4
  replace k3 := k3.same hs4
  replace k4 := OwnR.rebase k4 (by omega : w0.heap.size ≤ _)
  replace k5 := OwnR.rebase k5 (by omega : w0.heap.size ≤ _)
  have d3_0 := h3.cell 3 rfl
  have f3_0 := h3.frozen 3
  have d3_1 := h3.cell 4 rfl
  have f3_1 := h3.frozen 4
  have d3_2 := h3.cell 5 rfl
  have f3_2 := h3.frozen 5
  have d3_3 := h3.cell 6 rfl
  have f3_3 := h3.frozen 6
  replace h1 := h1.other (k := (w.heap.size + 1 + 1)) (j := 3) (.int .i64 D.birth) (by omega)
  replace h2 := h2.other (k := (w.heap.size + 1 + 1)) (j := 3) (.int .i64 D.birth) (by omega)
  replace h3 := h3.set 3 (.int .i64 D.birth)
  replace k1 := OwnRules.put k1 (w.heap.size + 1 + 1) 3 (.int .i64 D.birth) (by omega)
  replace k2 := OwnR.put k2 (w.heap.size + 1 + 1) 3 (.int .i64 D.birth) (by omega)
  replace k3 := OwnR.put k3 (w.heap.size + 1 + 1) 3 (.int .i64 D.birth) (by omega)
  replace k4 := OwnR.put k4 (w.heap.size + 1 + 1) 3 (.int .i64 D.birth) (by omega)
  replace k5 := OwnR.put k5 (w.heap.size + 1 + 1) 3 (.int .i64 D.birth) (by omega)
  replace S4 := S4.setCell (p := ⟨(w.heap.size + 1 + 1), 3, none⟩) (by first | (simp; done) | (simp; omega) | omega) (.int .i64 D.birth)
  replace h1 := h1.other (k := (w.heap.size + 1 + 1)) (j := 4) (.int .i64 D.joined) (by omega)
  replace h2 := h2.other (k := (w.heap.size + 1 + 1)) (j := 4) (.int .i64 D.joined) (by omega)
  replace h3 := h3.set 4 (.int .i64 D.joined)
  replace k1 := OwnRules.put k1 (w.heap.size + 1 + 1) 4 (.int .i64 D.joined) (by omega)
  replace k2 := OwnR.put k2 (w.heap.size + 1 + 1) 4 (.int .i64 D.joined) (by omega)
  replace k3 := OwnR.put k3 (w.heap.size + 1 + 1) 4 (.int .i64 D.joined) (by omega)
  replace k4 := OwnR.put k4 (w.heap.size + 1 + 1) 4 (.int .i64 D.joined) (by omega)
  replace k5 := OwnR.put k5 (w.heap.size + 1 + 1) 4 (.int .i64 D.joined) (by omega)
  replace S4 := S4.setCell (p := ⟨(w.heap.size + 1 + 1), 4, none⟩) (by first | (simp; done) | (simp; omega) | omega) (.int .i64 D.joined)
  replace h1 := h1.other (k := (w.heap.size + 1 + 1)) (j := 5) (.slice A4 D.S.length c4) (by omega)
  replace h2 := h2.other (k := (w.heap.size + 1 + 1)) (j := 5) (.slice A4 D.S.length c4) (by omega)
  replace h3 := h3.set 5 (.slice A4 D.S.length c4)
  replace k1 := OwnRules.put k1 (w.heap.size + 1 + 1) 5 (.slice A4 D.S.length c4) (by omega)
  replace k2 := OwnR.put k2 (w.heap.size + 1 + 1) 5 (.slice A4 D.S.length c4) (by omega)
  replace k3 := OwnR.put k3 (w.heap.size + 1 + 1) 5 (.slice A4 D.S.length c4) (by omega)
  replace k4 := OwnR.put k4 (w.heap.size + 1 + 1) 5 (.slice A4 D.S.length c4) (by omega)
  replace k5 := OwnR.put k5 (w.heap.size + 1 + 1) 5 (.slice A4 D.S.length c4) (by omega)
  replace S4 := S4.setCell (p := ⟨(w.heap.size + 1 + 1), 5, none⟩) (by first | (simp; done) | (simp; omega) | omega) (.slice A4 D.S.length c4)
  replace h1 := h1.other (k := (w.heap.size + 1 + 1)) (j := 6) (.slice A5 D.E.length c5) (by omega)
  replace h2 := h2.other (k := (w.heap.size + 1 + 1)) (j := 6) (.slice A5 D.E.length c5) (by omega)
  replace h3 := h3.set 6 (.slice A5 D.E.length c5)
  replace k1 := OwnRules.put k1 (w.heap.size + 1 + 1) 6 (.slice A5 D.E.length c5) (by omega)
  replace k2 := OwnR.put k2 (w.heap.size + 1 + 1) 6 (.slice A5 D.E.length c5) (by omega)
  replace k3 := OwnR.put k3 (w.heap.size + 1 + 1) 6 (.slice A5 D.E.length c5) (by omega)
  replace k4 := OwnR.put k4 (w.heap.size + 1 + 1) 6 (.slice A5 D.E.length c5) (by omega)
  replace k5 := OwnR.put k5 (w.heap.size + 1 + 1) 6 (.slice A5 D.E.length c5) (by omega)
  replace S4 := S4.setCell (p := ⟨(w.heap.size + 1 + 1), 6, none⟩) (by first | (simp; done) | (simp; omega) | omega) (.slice A5 D.E.length c5)
  have q4 : w0.heap.size ≤ ((((w4.setCell ⟨(w.heap.size + 1 + 1), 3, none⟩ (.int .i64 D.birth)).setCell ⟨(w.heap.size + 1 + 1), 4, none⟩ (.int .i64 D.joined)).setCell ⟨(w.heap.size + 1 + 1), 5, none⟩ (.slice A4 D.S.length c4)).setCell ⟨(w.heap.size + 1 + 1), 6, none⟩ (.slice A5 D.E.length c5)).heap.size := by first | (simp; done) | (simp; omega) | omega
  have o0 := h3.cell 0 rfl
  have o1 := h3.cell 1 rfl
  have o2 := h3.cell 2 rfl
  have o3 := h3.cell 3 rfl
  have o4 := h3.cell 4 rfl
  have o5 := h3.cell 5 rfl
  have o6 := h3.cell 6 rfl
  have r0 := h2.cell 0 rfl
  have g0 := h2.frozen 0
  have r1 := h2.cell 1 rfl
  have g1 := h2.frozen 1
  have r2 := h2.cell 2 rfl
  have g2 := h2.frozen 2
  have r3 := h2.cell 3 rfl
  have g3 := h2.frozen 3
  have r4 := h2.cell 4 rfl
  have g4 := h2.frozen 4
  have r5 := h2.cell 5 rfl
  have g5 := h2.frozen 5
  have r6 := h2.cell 6 rfl
  have g6 := h2.frozen 6
  have hx := (((((((h2.set 0 (.slice A1 D.R.length c1)).set 1 (.slice A2 D.F.length c2)).set 2 (.slice A3 D.P.length c3)).set 3 (.int .i64 D.birth)).set 4 (.int .i64 D.joined)).set 5 (.slice A4 D.S.length c4)).set 6 (.slice A5 D.E.length c5))
  have x0 := hx.cell 0 rfl
  have x1 := hx.cell 1 rfl
  have x2 := hx.cell 2 rfl
  have x3 := hx.cell 3 rfl
  have x4 := hx.cell 4 rfl
  have x5 := hx.cell 5 rfl
  have x6 := hx.cell 6 rfl
  replace k1 := OwnRules.put k1 (w.heap.size + 1) 0 (.slice A1 D.R.length c1) (by omega)
  replace k2 := OwnR.put k2 (w.heap.size + 1) 0 (.slice A1 D.R.length c1) (by omega)
  replace k3 := OwnR.put k3 (w.heap.size + 1) 0 (.slice A1 D.R.length c1) (by omega)
  replace k4 := OwnR.put k4 (w.heap.size + 1) 0 (.slice A1 D.R.length c1) (by omega)
  replace k5 := OwnR.put k5 (w.heap.size + 1) 0 (.slice A1 D.R.length c1) (by omega)
  replace k1 := OwnRules.put k1 (w.heap.size + 1) 1 (.slice A2 D.F.length c2) (by omega)
  replace k2 := OwnR.put k2 (w.heap.size + 1) 1 (.slice A2 D.F.length c2) (by omega)
  replace k3 := OwnR.put k3 (w.heap.size + 1) 1 (.slice A2 D.F.length c2) (by omega)
  replace k4 := OwnR.put k4 (w.heap.size + 1) 1 (.slice A2 D.F.length c2) (by omega)
  replace k5 := OwnR.put k5 (w.heap.size + 1) 1 (.slice A2 D.F.length c2) (by omega)
  replace k1 := OwnRules.put k1 (w.heap.size + 1) 2 (.slice A3 D.P.length c3) (by omega)
  replace k2 := OwnR.put k2 (w.heap.size + 1) 2 (.slice A3 D.P.length c3) (by omega)
  replace k3 := OwnR.put k3 (w.heap.size + 1) 2 (.slice A3 D.P.length c3) (by omega)
  replace k4 := OwnR.put k4 (w.heap.size + 1) 2 (.slice A3 D.P.length c3) (by omega)
  replace k5 := OwnR.put k5 (w.heap.size + 1) 2 (.slice A3 D.P.length c3) (by omega)
  replace k1 := OwnRules.put k1 (w.heap.size + 1) 3 (.int .i64 D.birth) (by omega)
  replace k2 := OwnR.put k2 (w.heap.size + 1) 3 (.int .i64 D.birth) (by omega)
  replace k3 := OwnR.put k3 (w.heap.size + 1) 3 (.int .i64 D.birth) (by omega)
  replace k4 := OwnR.put k4 (w.heap.size + 1) 3 (.int .i64 D.birth) (by omega)
  replace k5 := OwnR.put k5 (w.heap.size + 1) 3 (.int .i64 D.birth) (by omega)
  replace k1 := OwnRules.put k1 (w.heap.size + 1) 4 (.int .i64 D.joined) (by omega)
  replace k2 := OwnR.put k2 (w.heap.size + 1) 4 (.int .i64 D.joined) (by omega)
  replace k3 := OwnR.put k3 (w.heap.size + 1) 4 (.int .i64 D.joined) (by omega)
  replace k4 := OwnR.put k4 (w.heap.size + 1) 4 (.int .i64 D.joined) (by omega)
  replace k5 := OwnR.put k5 (w.heap.size + 1) 4 (.int .i64 D.joined) (by omega)
  replace k1 := OwnRules.put k1 (w.heap.size + 1) 5 (.slice A4 D.S.length c4) (by omega)
  replace k2 := OwnR.put k2 (w.heap.size + 1) 5 (.slice A4 D.S.length c4) (by omega)
  replace k3 := OwnR.put k3 (w.heap.size + 1) 5 (.slice A4 D.S.length c4) (by omega)
  replace k4 := OwnR.put k4 (w.heap.size + 1) 5 (.slice A4 D.S.length c4) (by omega)
  replace k5 := OwnR.put k5 (w.heap.size + 1) 5 (.slice A4 D.S.length c4) (by omega)
  replace k1 := OwnRules.put k1 (w.heap.size + 1) 6 (.slice A5 D.E.length c5) (by omega)
  replace k2 := OwnR.put k2 (w.heap.size + 1) 6 (.slice A5 D.E.length c5) (by omega)
  replace k3 := OwnR.put k3 (w.heap.size + 1) 6 (.slice A5 D.E.length c5) (by omega)
  replace k4 := OwnR.put k4 (w.heap.size + 1) 6 (.slice A5 D.E.length c5) (by omega)
  replace k5 := OwnR.put k5 (w.heap.size + 1) 6 (.slice A5 D.E.length c5) (by omega)
  have ST := (((((((S4.setCell (p := ⟨(w.heap.size + 1), 0, none⟩) (by first | (simp; done) | (simp; omega) | omega) (.slice A1 D.R.length c1)).setCell (p := ⟨(w.heap.size + 1), 1, none⟩) (by first | (simp; done) | (simp; omega) | omega) (.slice A2 D.F.length c2)).setCell (p := ⟨(w.heap.size + 1), 2, none⟩) (by first | (simp; done) | (simp; omega) | omega) (.slice A3 D.P.length c3)).setCell (p := ⟨(w.heap.size + 1), 3, none⟩) (by first | (simp; done) | (simp; omega) | omega) (.int .i64 D.birth)).setCell (p := ⟨(w.heap.size + 1), 4, none⟩) (by first | (simp; done) | (simp; omega) | omega) (.int .i64 D.joined)).setCell (p := ⟨(w.heap.size + 1), 5, none⟩) (by first | (simp; done) | (simp; omega) | omega) (.slice A4 D.S.length c4)).setCell (p := ⟨(w.heap.size + 1), 6, none⟩) (by first | (simp; done) | (simp; omega) | omega) (.slice A5 D.E.length c5))
  clear hx h1 h2 h3
  go_wp2
  exact bodyPost_ret (v := .agg #[.slice A1 D.R.length c1, .slice A2 D.F.length c2, .slice A3 D.P.length c3, .int .i64 D.birth, .int .i64 D.joined, .slice A4 D.S.length c4, .slice A5 D.E.length c5]) (by simp [results, Tryz.results28, go_sem, x0, x1, x2, x3, x4, x5, x6]) rfl ⟨⟨A1, c1, A2, c2, A3, c3, A4, c4, A5, c5⟩, rfl, ⟨OwnRules.rebase k1 (by omega), OwnR.rebase k2 (by omega), OwnR.rebase k3 (by omega), OwnR.rebase k4 (by omega), OwnR.rebase k5 (by omega)⟩, ST⟩

theorem szBook_yes (A : Option Addr) (c : Nat) (R : List TRule) (l : Int) (w : World) (hz : R.length ≤ 9223372036854775807) (hN : SmallR R 9223372036854775807) (h0 : 0 ≤ l) (h1 : l ≤ 1048576) (hS : (szR R : Int) ≤ l) (hA : RulesAt w A R) :
    Calls Tryz.prog 79 #[.agg #[.slice A R.length c], .int .i64 l] w fun e w' => e = .returned (.int .i64 (l - szR R)) ∧ Same w w' := by
  have hn : ¬ l - (szR R : Int) < 0 := by omega
  go_enter Tryz.func79, Tryz.ntmps79
  go_wp2_with fail
  refine (szRuleS_yes A c R l _ hz hN h0 h1 hS (hA.same ((Same.refl w).alloc _))).mono ?_
  rintro e w1 ⟨rfl, hs1⟩
  go_wp2
  go_ret
  exact ⟨rfl, ((Same.refl w).alloc _).trans hs1⟩
theorem szBook_no (A : Option Addr) (c : Nat) (R : List TRule) (l : Int) (w : World) (hz : R.length ≤ 9223372036854775807) (hN : SmallR R 9223372036854775807) (h0 : 0 ≤ l) (h1 : l ≤ 1048576) (hS : l < (szR R : Int)) (hA : RulesAt w A R) :
    Calls Tryz.prog 79 #[.agg #[.slice A R.length c], .int .i64 l] w fun e w' => e = .returned (.int .i64 (-1)) ∧ Same w w' := by
  go_enter Tryz.func79, Tryz.ntmps79
  go_wp2_with fail
  refine (szRuleS_no A c R l _ hz hN h0 h1 hS (hA.same ((Same.refl w).alloc _))).mono ?_
  rintro e w1 ⟨rfl, hs1⟩
  go_wp2
  go_ret
  exact ⟨rfl, ((Same.refl w).alloc _).trans hs1⟩
theorem szStore_yes (A : Option Addr) (n c : Nat) (l : Int) (w : World) (hn : n ≤ 9223372036854775807) (h0 : 0 ≤ l) (h1 : l ≤ 1048576) (h : (n : Int) ≤ l) :
    Calls Tryz.prog 80 #[.agg #[.slice A n c], .int .i64 l] w fun e w' => e = .returned (.int .i64 (l - n)) ∧ Same w w' := by
  have hnn : ¬ l - (n : Int) < 0 := by omega
  go_enter Tryz.func80, Tryz.ntmps80
  go_wp2_with fail
  refine (szFactS_any A n c l _ hn h0 h1).mono ?_
  rintro e w1 ⟨rfl, rfl⟩
  rw [if_pos h]
  go_wp2
  go_ret
  exact ⟨rfl, (Same.refl w).alloc _⟩
theorem szStore_no (A : Option Addr) (n c : Nat) (l : Int) (w : World) (hn : n ≤ 9223372036854775807) (h0 : 0 ≤ l) (h1 : l ≤ 1048576) (h : l < (n : Int)) :
    Calls Tryz.prog 80 #[.agg #[.slice A n c], .int .i64 l] w fun e w' => e = .returned (.int .i64 (-1)) ∧ Same w w' := by
  go_enter Tryz.func80, Tryz.ntmps80
  go_wp2_with fail
  refine (szFactS_any A n c l _ hn h0 h1).mono ?_
  rintro e w1 ⟨rfl, rfl⟩
  rw [if_neg (show ¬ (n : Int) ≤ l by omega)]
  go_wp2
  go_ret
  exact ⟨rfl, (Same.refl w).alloc _⟩
theorem szSeries_yes (A : Option Addr) (n c : Nat) (l : Int) (w : World) (hn : n ≤ 9223372036854775807) (h0 : 0 ≤ l) (h1 : l ≤ 1048576) (h : (n : Int) ≤ l) :
    Calls Tryz.prog 81 #[.agg #[.slice A n c], .int .i64 l] w fun e w' => e = .returned (.int .i64 (l - n)) ∧ Same w w' := by
  have hnn : ¬ l - (n : Int) < 0 := by omega
  go_enter Tryz.func81, Tryz.ntmps81
  go_wp2_with fail
  refine (szPointS_any A n c l _ hn h0 h1).mono ?_
  rintro e w1 ⟨rfl, rfl⟩
  rw [if_pos h]
  go_wp2
  go_ret
  exact ⟨rfl, (Same.refl w).alloc _⟩
theorem szSeries_no (A : Option Addr) (n c : Nat) (l : Int) (w : World) (hn : n ≤ 9223372036854775807) (h0 : 0 ≤ l) (h1 : l ≤ 1048576) (h : l < (n : Int)) :
    Calls Tryz.prog 81 #[.agg #[.slice A n c], .int .i64 l] w fun e w' => e = .returned (.int .i64 (-1)) ∧ Same w w' := by
  go_enter Tryz.func81, Tryz.ntmps81
  go_wp2_with fail
  refine (szPointS_any A n c l _ hn h0 h1).mono ?_
  rintro e w1 ⟨rfl, rfl⟩
  rw [if_neg (show ¬ (n : Int) ≤ l by omega)]
  go_wp2
  go_ret
  exact ⟨rfl, (Same.refl w).alloc _⟩
set_option maxHeartbeats 400000 in
theorem szMember_yes (birth joined : Int) (A : Option Addr) (n c : Nat) (B : Option Addr) (k d : Nat) (l : Int) (w : World) (hn : n ≤ 9223372036854775807) (hk : k ≤ 9223372036854775807) (h0 : 0 ≤ l) (h1 : l ≤ 1048576) (h : (n : Int) + k ≤ l) :
    Calls Tryz.prog 82 #[.agg #[.int .i64 birth, .int .i64 joined, .slice A n c, .slice B k d], .int .i64 l] w fun e w' => e = .returned (.int .i64 (l - n - k)) ∧ Same w w' := by
  have hnn : ¬ l - (n : Int) < 0 := by omega
  have hnk : ¬ l - (n : Int) - k < 0 := by omega
  go_enter Tryz.func82, Tryz.ntmps82
  go_wp2_with fail
  refine (szSpellS_any A n c l _ hn h0 h1).mono ?_
  rintro e w1 ⟨rfl, rfl⟩
  rw [if_pos (show (n : Int) ≤ l by omega)]
  go_wp2_with fail
  refine (szEventS_any B k d (l - n) _ hk (by omega) (by omega)).mono ?_
  rintro e w1 ⟨rfl, rfl⟩
  rw [if_pos (show (k : Int) ≤ l - n by omega)]
  go_wp2
  go_ret
  exact ⟨rfl, (Same.refl w).alloc _⟩
set_option maxHeartbeats 400000 in
theorem szMember_no (birth joined : Int) (A : Option Addr) (n c : Nat) (B : Option Addr) (k d : Nat) (l : Int) (w : World) (hn : n ≤ 9223372036854775807) (hk : k ≤ 9223372036854775807) (h0 : 0 ≤ l) (h1 : l ≤ 1048576) (h : l < (n : Int) + k) :
    Calls Tryz.prog 82 #[.agg #[.int .i64 birth, .int .i64 joined, .slice A n c, .slice B k d], .int .i64 l] w fun e w' => e = .returned (.int .i64 (-1)) ∧ Same w w' := by
  by_cases hnl : (n : Int) ≤ l
  · have hnn : ¬ l - (n : Int) < 0 := by omega
    go_enter Tryz.func82, Tryz.ntmps82
    go_wp2_with fail
    refine (szSpellS_any A n c l _ hn h0 h1).mono ?_
    rintro e w1 ⟨rfl, rfl⟩
    rw [if_pos hnl]
    go_wp2_with fail
    refine (szEventS_any B k d (l - n) _ hk (by omega) (by omega)).mono ?_
    rintro e w1 ⟨rfl, rfl⟩
    rw [if_neg (show ¬ (k : Int) ≤ l - n by omega)]
    go_wp2
    go_ret
    exact ⟨rfl, (Same.refl w).alloc _⟩
  · go_enter Tryz.func82, Tryz.ntmps82
    go_wp2_with fail
    refine (szSpellS_any A n c l _ hn h0 h1).mono ?_
    rintro e w1 ⟨rfl, rfl⟩
    rw [if_neg (show ¬ (n : Int) ≤ l by omega)]
    go_wp2
    go_ret
    exact ⟨rfl, (Same.refl w).alloc _⟩

set_option maxHeartbeats 2000000 in
theorem szCase_yes (D : TCase) (m : CMem) (l : Int) (w : World) (hZ : D.Small 9223372036854775807) (h0 : 0 ≤ l) (h1 : l ≤ 1048576) (h : (D.sz : Int) ≤ l) (hA : CaseAt w D m) :
    Calls Tryz.prog 26 #[.agg #[.slice m.r D.R.length m.rc, .slice m.f D.F.length m.fc, .slice m.p D.P.length m.pc, .int .i64 D.birth, .int .i64 D.joined, .slice m.s D.S.length m.sc, .slice m.e D.E.length m.ec], .int .i64 l] w fun e w' => e = .returned (.int .i64 (l - D.sz)) ∧ Same w w' := by
  unfold TCase.sz at h
  go_enter Tryz.func26, Tryz.ntmps26
  go_wp2_with fail
  have h1 : BoxAt (w.alloc (.cells #[.slice m.r D.R.length m.rc, .slice m.f D.F.length m.fc, .slice m.p D.P.length m.pc, .int .i64 D.birth, .int .i64 D.joined, .slice m.s D.S.length m.sc, .slice m.e D.E.length m.ec] 73)) (w.heap.size) 73 [.slice m.r D.R.length m.rc, .slice m.f D.F.length m.fc, .slice m.p D.P.length m.pc, .int .i64 D.birth, .int .i64 D.joined, .slice m.s D.S.length m.sc, .slice m.e D.E.length m.ec] := by simpa using (BoxAt.new w 73 [.slice m.r D.R.length m.rc, .slice m.f D.F.length m.fc, .slice m.p D.P.length m.pc, .int .i64 D.birth, .int .i64 D.joined, .slice m.s D.S.length m.sc, .slice m.e D.E.length m.ec])
  have hs0 := (Same.alloc (Same.refl w) (.cells #[.slice m.r D.R.length m.rc, .slice m.f D.F.length m.fc, .slice m.p D.P.length m.pc, .int .i64 D.birth, .int .i64 D.joined, .slice m.s D.S.length m.sc, .slice m.e D.E.length m.ec] 73))
  generalize (w.alloc (.cells #[.slice m.r D.R.length m.rc, .slice m.f D.F.length m.fc, .slice m.p D.P.length m.pc, .int .i64 D.birth, .int .i64 D.joined, .slice m.s D.S.length m.sc, .slice m.e D.E.length m.ec] 73)) = w0 at *
  have kA := hA.same hs0
  refine (szBook_yes m.r m.rc D.R (l) _ hZ.R hZ.N (by omega) (by omega) (by omega) (kA.rules)).mono ?_
  rintro e w1 ⟨rfl, t1⟩
  have T1 := t1
  have hp0 : ¬ l - (szR D.R : Int) < 0 := by omega
  have a0 := (h1.same T1).cell 1 rfl
  go_wp2_with fail
  clear a0
  refine (szStore_yes m.f D.F.length m.fc (l - (szR D.R : Int)) _ hZ.F (by omega) (by omega) (by omega)).mono ?_
  rintro e w2 ⟨rfl, t2⟩
  have T2 := T1.trans t2
  have hp1 : ¬ l - (szR D.R : Int) - (D.F.length : Int) < 0 := by omega
  have a0 := (h1.same T2).cell 2 rfl
  go_wp2_with fail
  clear a0
  refine (szSeries_yes m.p D.P.length m.pc (l - (szR D.R : Int) - (D.F.length : Int)) _ hZ.P (by omega) (by omega) (by omega)).mono ?_
  rintro e w3 ⟨rfl, t3⟩
  have T3 := T2.trans t3
  have hp2 : ¬ l - (szR D.R : Int) - (D.F.length : Int) - (D.P.length : Int) < 0 := by omega
  have a0 := (h1.same T3).cell 3 rfl
  have a1 := (h1.same T3).cell 4 rfl
  have a2 := (h1.same T3).cell 5 rfl
  have a3 := (h1.same T3).cell 6 rfl
  go_wp2_with fail
  clear a0 a1 a2 a3
  refine (szMember_yes D.birth D.joined m.s D.S.length m.sc m.e D.E.length m.ec (l - (szR D.R : Int) - (D.F.length : Int) - (D.P.length : Int)) _ hZ.S hZ.E (by omega) (by omega) (by omega)).mono ?_
  rintro e w4 ⟨rfl, t4⟩
  have T4 := T3.trans t4
  have hp3 : ¬ l - (szR D.R : Int) - (D.F.length : Int) - (D.P.length : Int) - (D.S.length : Int) - (D.E.length : Int) < 0 := by omega
  go_wp2
  go_ret
  exact ⟨ret_int (by unfold TCase.sz; omega), hs0.trans T4⟩
set_option maxHeartbeats 2000000 in
theorem szCase_no (D : TCase) (m : CMem) (l : Int) (w : World) (hZ : D.Small 9223372036854775807) (h0 : 0 ≤ l) (h1 : l ≤ 1048576) (h : l < (D.sz : Int)) (hA : CaseAt w D m) :
    Calls Tryz.prog 26 #[.agg #[.slice m.r D.R.length m.rc, .slice m.f D.F.length m.fc, .slice m.p D.P.length m.pc, .int .i64 D.birth, .int .i64 D.joined, .slice m.s D.S.length m.sc, .slice m.e D.E.length m.ec], .int .i64 l] w fun e w' => e = .returned (.int .i64 (-1)) ∧ Same w w' := by
  unfold TCase.sz at h
  by_cases c1 : l < (szR D.R : Int)
  · skip
    go_enter Tryz.func26, Tryz.ntmps26
    go_wp2_with fail
    have h1 : BoxAt (w.alloc (.cells #[.slice m.r D.R.length m.rc, .slice m.f D.F.length m.fc, .slice m.p D.P.length m.pc, .int .i64 D.birth, .int .i64 D.joined, .slice m.s D.S.length m.sc, .slice m.e D.E.length m.ec] 73)) (w.heap.size) 73 [.slice m.r D.R.length m.rc, .slice m.f D.F.length m.fc, .slice m.p D.P.length m.pc, .int .i64 D.birth, .int .i64 D.joined, .slice m.s D.S.length m.sc, .slice m.e D.E.length m.ec] := by simpa using (BoxAt.new w 73 [.slice m.r D.R.length m.rc, .slice m.f D.F.length m.fc, .slice m.p D.P.length m.pc, .int .i64 D.birth, .int .i64 D.joined, .slice m.s D.S.length m.sc, .slice m.e D.E.length m.ec])
    have hs0 := (Same.alloc (Same.refl w) (.cells #[.slice m.r D.R.length m.rc, .slice m.f D.F.length m.fc, .slice m.p D.P.length m.pc, .int .i64 D.birth, .int .i64 D.joined, .slice m.s D.S.length m.sc, .slice m.e D.E.length m.ec] 73))
    generalize (w.alloc (.cells #[.slice m.r D.R.length m.rc, .slice m.f D.F.length m.fc, .slice m.p D.P.length m.pc, .int .i64 D.birth, .int .i64 D.joined, .slice m.s D.S.length m.sc, .slice m.e D.E.length m.ec] 73)) = w0 at *
    have kA := hA.same hs0
    refine (szBook_no m.r m.rc D.R (l) _ hZ.R hZ.N (by omega) (by omega) (by omega) (kA.rules)).mono ?_
    rintro e w1 ⟨rfl, t1⟩
    have T1 := t1
    go_wp2
    go_ret
    exact ⟨rfl, hs0.trans T1⟩
  by_cases c2 : l - (szR D.R : Int) < (D.F.length : Int)
  · skip
    go_enter Tryz.func26, Tryz.ntmps26
    go_wp2_with fail
    have h1 : BoxAt (w.alloc (.cells #[.slice m.r D.R.length m.rc, .slice m.f D.F.length m.fc, .slice m.p D.P.length m.pc, .int .i64 D.birth, .int .i64 D.joined, .slice m.s D.S.length m.sc, .slice m.e D.E.length m.ec] 73)) (w.heap.size) 73 [.slice m.r D.R.length m.rc, .slice m.f D.F.length m.fc, .slice m.p D.P.length m.pc, .int .i64 D.birth, .int .i64 D.joined, .slice m.s D.S.length m.sc, .slice m.e D.E.length m.ec] := by simpa using (BoxAt.new w 73 [.slice m.r D.R.length m.rc, .slice m.f D.F.length m.fc, .slice m.p D.P.length m.pc, .int .i64 D.birth, .int .i64 D.joined, .slice m.s D.S.length m.sc, .slice m.e D.E.length m.ec])
    have hs0 := (Same.alloc (Same.refl w) (.cells #[.slice m.r D.R.length m.rc, .slice m.f D.F.length m.fc, .slice m.p D.P.length m.pc, .int .i64 D.birth, .int .i64 D.joined, .slice m.s D.S.length m.sc, .slice m.e D.E.length m.ec] 73))
    generalize (w.alloc (.cells #[.slice m.r D.R.length m.rc, .slice m.f D.F.length m.fc, .slice m.p D.P.length m.pc, .int .i64 D.birth, .int .i64 D.joined, .slice m.s D.S.length m.sc, .slice m.e D.E.length m.ec] 73)) = w0 at *
    have kA := hA.same hs0
    refine (szBook_yes m.r m.rc D.R (l) _ hZ.R hZ.N (by omega) (by omega) (by omega) (kA.rules)).mono ?_
    rintro e w1 ⟨rfl, t1⟩
    have T1 := t1
    have hp0 : ¬ l - (szR D.R : Int) < 0 := by omega
    have a0 := (h1.same T1).cell 1 rfl
    go_wp2_with fail
    clear a0
    refine (szStore_no m.f D.F.length m.fc (l - (szR D.R : Int)) _ hZ.F (by omega) (by omega) (by omega)).mono ?_
    rintro e w2 ⟨rfl, t2⟩
    have T2 := T1.trans t2
    go_wp2
    go_ret
    exact ⟨rfl, hs0.trans T2⟩
  by_cases c3 : l - (szR D.R : Int) - (D.F.length : Int) < (D.P.length : Int)
  · skip
    go_enter Tryz.func26, Tryz.ntmps26
    go_wp2_with fail
    have h1 : BoxAt (w.alloc (.cells #[.slice m.r D.R.length m.rc, .slice m.f D.F.length m.fc, .slice m.p D.P.length m.pc, .int .i64 D.birth, .int .i64 D.joined, .slice m.s D.S.length m.sc, .slice m.e D.E.length m.ec] 73)) (w.heap.size) 73 [.slice m.r D.R.length m.rc, .slice m.f D.F.length m.fc, .slice m.p D.P.length m.pc, .int .i64 D.birth, .int .i64 D.joined, .slice m.s D.S.length m.sc, .slice m.e D.E.length m.ec] := by simpa using (BoxAt.new w 73 [.slice m.r D.R.length m.rc, .slice m.f D.F.length m.fc, .slice m.p D.P.length m.pc, .int .i64 D.birth, .int .i64 D.joined, .slice m.s D.S.length m.sc, .slice m.e D.E.length m.ec])
    have hs0 := (Same.alloc (Same.refl w) (.cells #[.slice m.r D.R.length m.rc, .slice m.f D.F.length m.fc, .slice m.p D.P.length m.pc, .int .i64 D.birth, .int .i64 D.joined, .slice m.s D.S.length m.sc, .slice m.e D.E.length m.ec] 73))
    generalize (w.alloc (.cells #[.slice m.r D.R.length m.rc, .slice m.f D.F.length m.fc, .slice m.p D.P.length m.pc, .int .i64 D.birth, .int .i64 D.joined, .slice m.s D.S.length m.sc, .slice m.e D.E.length m.ec] 73)) = w0 at *
    have kA := hA.same hs0
    refine (szBook_yes m.r m.rc D.R (l) _ hZ.R hZ.N (by omega) (by omega) (by omega) (kA.rules)).mono ?_
    rintro e w1 ⟨rfl, t1⟩
    have T1 := t1
    have hp0 : ¬ l - (szR D.R : Int) < 0 := by omega
    have a0 := (h1.same T1).cell 1 rfl
    go_wp2_with fail
    clear a0
    refine (szStore_yes m.f D.F.length m.fc (l - (szR D.R : Int)) _ hZ.F (by omega) (by omega) (by omega)).mono ?_
    rintro e w2 ⟨rfl, t2⟩
    have T2 := T1.trans t2
    have hp1 : ¬ l - (szR D.R : Int) - (D.F.length : Int) < 0 := by omega
    have a0 := (h1.same T2).cell 2 rfl
    go_wp2_with fail
    clear a0
    refine (szSeries_no m.p D.P.length m.pc (l - (szR D.R : Int) - (D.F.length : Int)) _ hZ.P (by omega) (by omega) (by omega)).mono ?_
    rintro e w3 ⟨rfl, t3⟩
    have T3 := T2.trans t3
    go_wp2
    go_ret
    exact ⟨rfl, hs0.trans T3⟩
  · skip
    go_enter Tryz.func26, Tryz.ntmps26
    go_wp2_with fail
    have h1 : BoxAt (w.alloc (.cells #[.slice m.r D.R.length m.rc, .slice m.f D.F.length m.fc, .slice m.p D.P.length m.pc, .int .i64 D.birth, .int .i64 D.joined, .slice m.s D.S.length m.sc, .slice m.e D.E.length m.ec] 73)) (w.heap.size) 73 [.slice m.r D.R.length m.rc, .slice m.f D.F.length m.fc, .slice m.p D.P.length m.pc, .int .i64 D.birth, .int .i64 D.joined, .slice m.s D.S.length m.sc, .slice m.e D.E.length m.ec] := by simpa using (BoxAt.new w 73 [.slice m.r D.R.length m.rc, .slice m.f D.F.length m.fc, .slice m.p D.P.length m.pc, .int .i64 D.birth, .int .i64 D.joined, .slice m.s D.S.length m.sc, .slice m.e D.E.length m.ec])
    have hs0 := (Same.alloc (Same.refl w) (.cells #[.slice m.r D.R.length m.rc, .slice m.f D.F.length m.fc, .slice m.p D.P.length m.pc, .int .i64 D.birth, .int .i64 D.joined, .slice m.s D.S.length m.sc, .slice m.e D.E.length m.ec] 73))
    generalize (w.alloc (.cells #[.slice m.r D.R.length m.rc, .slice m.f D.F.length m.fc, .slice m.p D.P.length m.pc, .int .i64 D.birth, .int .i64 D.joined, .slice m.s D.S.length m.sc, .slice m.e D.E.length m.ec] 73)) = w0 at *
    have kA := hA.same hs0
    refine (szBook_yes m.r m.rc D.R (l) _ hZ.R hZ.N (by omega) (by omega) (by omega) (kA.rules)).mono ?_
    rintro e w1 ⟨rfl, t1⟩
    have T1 := t1
    have hp0 : ¬ l - (szR D.R : Int) < 0 := by omega
    have a0 := (h1.same T1).cell 1 rfl
    go_wp2_with fail
    clear a0
    refine (szStore_yes m.f D.F.length m.fc (l - (szR D.R : Int)) _ hZ.F (by omega) (by omega) (by omega)).mono ?_
    rintro e w2 ⟨rfl, t2⟩
    have T2 := T1.trans t2
    have hp1 : ¬ l - (szR D.R : Int) - (D.F.length : Int) < 0 := by omega
    have a0 := (h1.same T2).cell 2 rfl
    go_wp2_with fail
    clear a0
    refine (szSeries_yes m.p D.P.length m.pc (l - (szR D.R : Int) - (D.F.length : Int)) _ hZ.P (by omega) (by omega) (by omega)).mono ?_
    rintro e w3 ⟨rfl, t3⟩
    have T3 := T2.trans t3
    have hp2 : ¬ l - (szR D.R : Int) - (D.F.length : Int) - (D.P.length : Int) < 0 := by omega
    have a0 := (h1.same T3).cell 3 rfl
    have a1 := (h1.same T3).cell 4 rfl
    have a2 := (h1.same T3).cell 5 rfl
    have a3 := (h1.same T3).cell 6 rfl
    go_wp2_with fail
    clear a0 a1 a2 a3
    refine (szMember_no D.birth D.joined m.s D.S.length m.sc m.e D.E.length m.ec (l - (szR D.R : Int) - (D.F.length : Int) - (D.P.length : Int)) _ hZ.S hZ.E (by omega) (by omega) (by omega)).mono ?_
    rintro e w4 ⟨rfl, t4⟩
    have T4 := T3.trans t4
    go_wp2
    go_ret
    exact ⟨rfl, hs0.trans T4⟩

set_option maxHeartbeats 1000000 in
theorem eqCase_same (D : TCase) (m m' : CMem) (w : World) (hD : D.Small 1048576) (hA : CaseAt w D m) (hB : CaseAt w D m') :
    Calls Tryz.prog 30 #[.agg #[.slice m.r D.R.length m.rc, .slice m.f D.F.length m.fc, .slice m.p D.P.length m.pc, .int .i64 D.birth, .int .i64 D.joined, .slice m.s D.S.length m.sc, .slice m.e D.E.length m.ec], .agg #[.slice m'.r D.R.length m'.rc, .slice m'.f D.F.length m'.fc, .slice m'.p D.P.length m'.pc, .int .i64 D.birth, .int .i64 D.joined, .slice m'.s D.S.length m'.sc, .slice m'.e D.E.length m'.ec]] w fun e w' => e = .returned (.bool true) ∧ Same w w' := by
  have hZ := hD.mono (show 1048576 ≤ 9223372036854775807 by omega)
  go_enter Tryz.func30, Tryz.ntmps30
  go_wp2_with fail
  have h1 : BoxAt ((w.alloc (.cells #[.slice m.r D.R.length m.rc, .slice m.f D.F.length m.fc, .slice m.p D.P.length m.pc, .int .i64 D.birth, .int .i64 D.joined, .slice m.s D.S.length m.sc, .slice m.e D.E.length m.ec] 38)).alloc (.cells #[.slice m'.r D.R.length m'.rc, .slice m'.f D.F.length m'.fc, .slice m'.p D.P.length m'.pc, .int .i64 D.birth, .int .i64 D.joined, .slice m'.s D.S.length m'.sc, .slice m'.e D.E.length m'.ec] 38)) (w.heap.size) 38 [.slice m.r D.R.length m.rc, .slice m.f D.F.length m.fc, .slice m.p D.P.length m.pc, .int .i64 D.birth, .int .i64 D.joined, .slice m.s D.S.length m.sc, .slice m.e D.E.length m.ec] := by simpa using (BoxAt.alloc (BoxAt.new w 38 [.slice m.r D.R.length m.rc, .slice m.f D.F.length m.fc, .slice m.p D.P.length m.pc, .int .i64 D.birth, .int .i64 D.joined, .slice m.s D.S.length m.sc, .slice m.e D.E.length m.ec]) (.cells #[.slice m'.r D.R.length m'.rc, .slice m'.f D.F.length m'.fc, .slice m'.p D.P.length m'.pc, .int .i64 D.birth, .int .i64 D.joined, .slice m'.s D.S.length m'.sc, .slice m'.e D.E.length m'.ec] 38))
  have h2 : BoxAt ((w.alloc (.cells #[.slice m.r D.R.length m.rc, .slice m.f D.F.length m.fc, .slice m.p D.P.length m.pc, .int .i64 D.birth, .int .i64 D.joined, .slice m.s D.S.length m.sc, .slice m.e D.E.length m.ec] 38)).alloc (.cells #[.slice m'.r D.R.length m'.rc, .slice m'.f D.F.length m'.fc, .slice m'.p D.P.length m'.pc, .int .i64 D.birth, .int .i64 D.joined, .slice m'.s D.S.length m'.sc, .slice m'.e D.E.length m'.ec] 38)) (w.heap.size + 1) 38 [.slice m'.r D.R.length m'.rc, .slice m'.f D.F.length m'.fc, .slice m'.p D.P.length m'.pc, .int .i64 D.birth, .int .i64 D.joined, .slice m'.s D.S.length m'.sc, .slice m'.e D.E.length m'.ec] := by simpa using (BoxAt.new (w.alloc (.cells #[.slice m.r D.R.length m.rc, .slice m.f D.F.length m.fc, .slice m.p D.P.length m.pc, .int .i64 D.birth, .int .i64 D.joined, .slice m.s D.S.length m.sc, .slice m.e D.E.length m.ec] 38)) 38 [.slice m'.r D.R.length m'.rc, .slice m'.f D.F.length m'.fc, .slice m'.p D.P.length m'.pc, .int .i64 D.birth, .int .i64 D.joined, .slice m'.s D.S.length m'.sc, .slice m'.e D.E.length m'.ec])
  have hs0 := (Same.alloc (Same.alloc (Same.refl w) (.cells #[.slice m.r D.R.length m.rc, .slice m.f D.F.length m.fc, .slice m.p D.P.length m.pc, .int .i64 D.birth, .int .i64 D.joined, .slice m.s D.S.length m.sc, .slice m.e D.E.length m.ec] 38)) (.cells #[.slice m'.r D.R.length m'.rc, .slice m'.f D.F.length m'.fc, .slice m'.p D.P.length m'.pc, .int .i64 D.birth, .int .i64 D.joined, .slice m'.s D.S.length m'.sc, .slice m'.e D.E.length m'.ec] 38))
  generalize ((w.alloc (.cells #[.slice m.r D.R.length m.rc, .slice m.f D.F.length m.fc, .slice m.p D.P.length m.pc, .int .i64 D.birth, .int .i64 D.joined, .slice m.s D.S.length m.sc, .slice m.e D.E.length m.ec] 38)).alloc (.cells #[.slice m'.r D.R.length m'.rc, .slice m'.f D.F.length m'.fc, .slice m'.p D.P.length m'.pc, .int .i64 D.birth, .int .i64 D.joined, .slice m'.s D.S.length m'.sc, .slice m'.e D.E.length m'.ec] 38)) = w0 at *
  have kA := hA.same hs0
  have kB := hB.same hs0
  refine (eqBook_same m.r m'.r m.rc m'.rc D.R _ hZ.R hZ.N kA.rules kB.rules).mono ?_
  rintro e w1 ⟨rfl, t1⟩
  have a0 := (h1.same t1).cell 1 rfl
  have a1 := (h2.same t1).cell 1 rfl
  go_wp2_with fail
  clear a0 a1
  refine (eqStore_same m.f m'.f m.fc m'.fc D.F _ hZ.F (kA.same t1).facts (kB.same t1).facts).mono ?_
  rintro e w2 ⟨rfl, t2⟩
  have T2 := t1.trans t2
  have a0 := (h1.same T2).cell 2 rfl
  have a1 := (h2.same T2).cell 2 rfl
  go_wp2_with fail
  clear a0 a1
  refine (eqSeries_same m.p m'.p m.pc m'.pc D.P _ hZ.P (kA.same T2).points (kB.same T2).points).mono ?_
  rintro e w3 ⟨rfl, t3⟩
  have T3 := T2.trans t3
  have a0 := (h1.same T3).cell 3 rfl
  have a1 := (h1.same T3).cell 4 rfl
  have a2 := (h1.same T3).cell 5 rfl
  have a3 := (h1.same T3).cell 6 rfl
  have b0 := (h2.same T3).cell 3 rfl
  have b1 := (h2.same T3).cell 4 rfl
  have b2 := (h2.same T3).cell 5 rfl
  have b3 := (h2.same T3).cell 6 rfl
  go_wp2_with fail
  clear a0 a1 a2 a3 b0 b1 b2 b3
  refine (eqMember_same D.birth D.joined m.s m'.s m.sc m'.sc D.S m.e m'.e m.ec m'.ec D.E _ hZ.S hZ.E (kA.same T3).spells (kB.same T3).spells (kA.same T3).events (kB.same T3).events).mono ?_
  rintro e w4 ⟨rfl, t4⟩
  go_wp2
  go_ret
  exact ⟨rfl, (hs0.trans T3).trans t4⟩
end Go.Proofs.YtjfmknhnplefnaaGreat
