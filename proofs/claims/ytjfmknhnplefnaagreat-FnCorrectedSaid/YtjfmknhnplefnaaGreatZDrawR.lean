/- Joined of RuleCopy, AddRule, DrawRule: what is proved stands ahead of each part. -/
import Derived.Test.YtjfmknhnplefnaaGreatZDraws
import Derived.Test.YtjfmknhnplefnaaGreatZCaseOk
import Derived.Test.YtjfmknhnplefnaaGreatZFracS

section
/-
  Rules and books, copied by the specification.
-/
namespace Go.Proofs.YtjfmknhnplefnaaGreat
open Go.RowKit
set_option linter.unusedVariables false
set_option linter.unusedSimpArgs false

/-- A row of rules of the call's own, apart from its rules' nodes. -/
def OwnM (w : World) (base : Nat) (v : Value) (L : List MRule) : Prop :=
  OwnR 114 7 cRule w base v L ∧ ∀ x ∈ L, OwnNode w base (.slice x.2.1 x.1.nodes.length x.2.2) x.1.nodes ∧ Sep v (.slice x.2.1 x.1.nodes.length x.2.2)
section
variable {a b w : World} {base : Nat} {v : Value} {L : List MRule}
theorem OwnM.rules (h : OwnM w base v L) : OwnRules w base v (L.map Prod.fst) := ⟨L, rfl, h.1, fun x hx => (h.2 x hx).1⟩
theorem OwnM.same (h : OwnM a base v L) (hs : Same a b) : OwnM b base v L := ⟨OwnR.same h.1 hs, fun x hx => ⟨OwnR.same (h.2 x hx).1 hs, (h.2 x hx).2⟩⟩
theorem OwnM.put (h : OwnM a base v L) (g j : Nat) (u : Value) (hg : g < base) : OwnM (a.setCell ⟨g, j, none⟩ u) base v L := ⟨OwnR.put h.1 g j u hg, fun x hx => ⟨OwnR.put (h.2 x hx).1 g j u hg, (h.2 x hx).2⟩⟩
theorem OwnM.rebase {base' : Nat} (h : OwnM a base v L) (hb : base' ≤ base) : OwnM a base' v L := ⟨OwnR.rebase h.1 hb, fun x hx => ⟨OwnR.rebase (h.2 x hx).1 hb, (h.2 x hx).2⟩⟩
theorem OwnM.nil (a : World) (base : Nat) : OwnM a base (.slice none 0 0) [] := ⟨OwnR.nil _ _ _ _ _, fun x hx => (List.not_mem_nil hx).elim⟩
theorem OwnM.push {v' : Value} {y : MRule} (h : OwnM a base v L) (ho : OwnR 114 7 cRule b base v' (L ++ [y])) (hg : a.grownBy b v.ownBlock) (hf : From a v v') (hn : OwnNode a base (.slice y.2.1 y.1.nodes.length y.2.2) y.1.nodes) (hs : Sep v (.slice y.2.1 y.1.nodes.length y.2.2)) :
    OwnM b base v' (L ++ [y]) := by
  refine ⟨ho, fun x hx => ?_⟩
  rcases List.mem_append.1 hx with hx | hx
  · exact ⟨grown_owns hg (h.2 x hx).1 (h.2 x hx).2, Sep.from_ (h.2 x hx).2 hf (h.2 x hx).1⟩
  · simp at hx
    subst hx
    exact ⟨grown_owns hg hn hs, Sep.from_ hs hf hn⟩
/-- Rules of a call's own, read at a place. -/
theorem OwnRules.atk {A : Option Addr} {n c : Nat} {R : List TRule} (h : OwnRules w base (.slice A n c) R) {k : Nat} (hk : k < R.length) :
    ∃ (g : Nat) (r : TRule) (B : Option Addr) (d : Nat), A = some ⟨g, 0, none⟩ ∧ g < w.heap.size ∧ (∀ j v, (cRule (r, B, d))[j]? = some v → w.cell? ⟨g, k * 7 + j, none⟩ = some v) ∧ Hid (R[k]? = some r) ∧ OwnNode w base (.slice B r.nodes.length d) r.nodes := by
  obtain ⟨L, rfl, h2, h3⟩ := h
  rw [List.length_map] at hk
  have hx : L[k]? = some L[k] := List.getElem?_eq_getElem hk
  obtain ⟨g, h4, h5, h6, h7, h8⟩ := OwnR.at_ cRule_len h2 hx
  exact ⟨g, L[k].1, L[k].2.1, L[k].2.2, h4, h6, fun j v hv => h7 j v hv, by show _ = _; rw [List.getElem?_map, hx]; rfl, h3 _ (List.mem_of_getElem? hx)⟩
theorem SmallR.take {R : List TRule} {n : Nat} (h : SmallR R n) (k : Nat) : SmallR (R.take k) n := fun r hr => h r (List.mem_of_mem_take hr)
end

theorem map_take_push {L : List MRule} {R : List TRule} {k : Nat} {r : TRule} (h : L.map Prod.fst = R.take k) (hx : R[k]? = some r) : ∀ y : Option Addr × Nat, (L ++ [(r, y)]).map Prod.fst = R.take (k + 1) := by
  intro y
  rw [List.map_append, h, List.take_add_one, hx]
  rfl
set_option maxHeartbeats 1000000 in
theorem l10Rule_any (nm fr tq jo ra mo : Int) (B : Option Addr) (d : Nat) (N : List TNode) (w : World) (hN : N.length ≤ 1048576) (hnil : B = none → d = 0) (hB : AtNode w B N) :
    Calls Tryz.prog 160 #[.agg #[.int .i64 nm, .int .i64 fr, .int .i64 tq, .int .i64 jo, .int .i64 ra, .int .i64 mo, .slice B N.length d]] w (RetRule w ⟨nm, fr, tq, jo, ra, mo, N⟩) := by
  have hem : OwnNode (((w.alloc (.cells #[.int .i64 nm, .int .i64 fr, .int .i64 tq, .int .i64 jo, .int .i64 ra, .int .i64 mo, .slice B N.length d] 114)).alloc (.cells #[.int .i64 0, .int .i64 0, .int .i64 0, .int .i64 0, .int .i64 0, .int .i64 0, .slice none 0 0] 114)).alloc (.cells #[] 191)) (w.heap.size + 1 + 1) (.slice (some ⟨w.heap.size + 1 + 1, 0, none⟩) 0 0) [] := by
    have := OwnR.empty 191 6 cNode ((w.alloc (.cells #[.int .i64 nm, .int .i64 fr, .int .i64 tq, .int .i64 jo, .int .i64 ra, .int .i64 mo, .slice B N.length d] 114)).alloc (.cells #[.int .i64 0, .int .i64 0, .int .i64 0, .int .i64 0, .int .i64 0, .int .i64 0, .slice none 0 0] 114)) (Nat.le_refl _)
    simpa using this
  have h1 : BoxAt (((w.alloc (.cells #[.int .i64 nm, .int .i64 fr, .int .i64 tq, .int .i64 jo, .int .i64 ra, .int .i64 mo, .slice B N.length d] 114)).alloc (.cells #[.int .i64 0, .int .i64 0, .int .i64 0, .int .i64 0, .int .i64 0, .int .i64 0, .slice none 0 0] 114)).alloc (.cells #[] 191)) (w.heap.size) 114 [.int .i64 nm, .int .i64 fr, .int .i64 tq, .int .i64 jo, .int .i64 ra, .int .i64 mo, .slice B N.length d] := by simpa using (BoxAt.alloc (BoxAt.alloc (BoxAt.new w 114 [.int .i64 nm, .int .i64 fr, .int .i64 tq, .int .i64 jo, .int .i64 ra, .int .i64 mo, .slice B N.length d]) (.cells #[.int .i64 0, .int .i64 0, .int .i64 0, .int .i64 0, .int .i64 0, .int .i64 0, .slice none 0 0] 114)) (.cells #[] 191))
  have h2 : BoxAt (((w.alloc (.cells #[.int .i64 nm, .int .i64 fr, .int .i64 tq, .int .i64 jo, .int .i64 ra, .int .i64 mo, .slice B N.length d] 114)).alloc (.cells #[.int .i64 0, .int .i64 0, .int .i64 0, .int .i64 0, .int .i64 0, .int .i64 0, .slice none 0 0] 114)).alloc (.cells #[] 191)) (w.heap.size + 1) 114 [.int .i64 0, .int .i64 0, .int .i64 0, .int .i64 0, .int .i64 0, .int .i64 0, .slice none 0 0] := by simpa using (BoxAt.alloc (BoxAt.new (w.alloc (.cells #[.int .i64 nm, .int .i64 fr, .int .i64 tq, .int .i64 jo, .int .i64 ra, .int .i64 mo, .slice B N.length d] 114)) 114 [.int .i64 0, .int .i64 0, .int .i64 0, .int .i64 0, .int .i64 0, .int .i64 0, .slice none 0 0]) (.cells #[] 191))
  have hs0 := (Same.alloc (Same.alloc (Same.alloc (Same.refl w) (.cells #[.int .i64 nm, .int .i64 fr, .int .i64 tq, .int .i64 jo, .int .i64 ra, .int .i64 mo, .slice B N.length d] 114)) (.cells #[.int .i64 0, .int .i64 0, .int .i64 0, .int .i64 0, .int .i64 0, .int .i64 0, .slice none 0 0] 114)) (.cells #[] 191))
  go_enter Tryz.func160, Tryz.ntmps160
  go_wp2_with (at_builtin; refine wpList_of rfl fun _ hK => wp_allNode _ (.tmp 3) (.tmp 5) rfl (w.heap.size + 1 + 1) _ [] rfl hem B d N rfl (hB.same hs0) hnil (by simp; omega) (by simp) (fun v' w4 ho4 hup hfr => hK _ _ ?_); (rw [List.nil_append] at ho4); (obtain ⟨B4, d4, rfl⟩ := OwnR.form ho4); (have hr : ∀ b, (Value.slice (some ⟨w.heap.size + 1 + 1, 0, none⟩) 0 0).ownBlock = some b → w.heap.size + 1 + 1 ≤ b := fun b hb => by cases hb; exact Nat.le_refl _); (have k1 := grown_box hup h1 (fun e => by have := hr _ e; omega)); (have k2 := grown_box hup h2 (fun e => by have := hr _ e; omega)); (have S4 := grown_same hs0 hup (fun b hb => by have := hr b hb; omega)); (have f6 := k1.frozen 6); (have c6 := k1.cell 6 rfl); (have g0 := (k1.set 6 (.slice B4 N.length d4)).cell 0 rfl); (have g1 := (k1.set 6 (.slice B4 N.length d4)).cell 1 rfl); (have g2 := (k1.set 6 (.slice B4 N.length d4)).cell 2 rfl); (have g3 := (k1.set 6 (.slice B4 N.length d4)).cell 3 rfl); (have g4 := (k1.set 6 (.slice B4 N.length d4)).cell 4 rfl); (have g5 := (k1.set 6 (.slice B4 N.length d4)).cell 5 rfl); (have g6 := (k1.set 6 (.slice B4 N.length d4)).cell 6 rfl); (have p0 := (k2.other (k := w.heap.size) (j := 6) (.slice B4 N.length d4) (by omega)).cell 0 rfl); (have q0 := (k2.other (k := w.heap.size) (j := 6) (.slice B4 N.length d4) (by omega)).frozen 0); (have p1 := (k2.other (k := w.heap.size) (j := 6) (.slice B4 N.length d4) (by omega)).cell 1 rfl); (have q1 := (k2.other (k := w.heap.size) (j := 6) (.slice B4 N.length d4) (by omega)).frozen 1); (have p2 := (k2.other (k := w.heap.size) (j := 6) (.slice B4 N.length d4) (by omega)).cell 2 rfl); (have q2 := (k2.other (k := w.heap.size) (j := 6) (.slice B4 N.length d4) (by omega)).frozen 2); (have p3 := (k2.other (k := w.heap.size) (j := 6) (.slice B4 N.length d4) (by omega)).cell 3 rfl); (have q3 := (k2.other (k := w.heap.size) (j := 6) (.slice B4 N.length d4) (by omega)).frozen 3); (have p4 := (k2.other (k := w.heap.size) (j := 6) (.slice B4 N.length d4) (by omega)).cell 4 rfl); (have q4 := (k2.other (k := w.heap.size) (j := 6) (.slice B4 N.length d4) (by omega)).frozen 4); (have p5 := (k2.other (k := w.heap.size) (j := 6) (.slice B4 N.length d4) (by omega)).cell 5 rfl); (have q5 := (k2.other (k := w.heap.size) (j := 6) (.slice B4 N.length d4) (by omega)).frozen 5); (have p6 := (k2.other (k := w.heap.size) (j := 6) (.slice B4 N.length d4) (by omega)).cell 6 rfl); (have q6 := (k2.other (k := w.heap.size) (j := 6) (.slice B4 N.length d4) (by omega)).frozen 6))
  have K := ((((((((k2.other (k := w.heap.size) (j := 6) (.slice B4 N.length d4) (by omega)).set 0 (.int .i64 nm)).set 1 (.int .i64 fr)).set 2 (.int .i64 tq)).set 3 (.int .i64 jo)).set 4 (.int .i64 ra)).set 5 (.int .i64 mo)).set 6 (.slice B4 N.length d4))
  have y0 := K.cell 0 rfl
  have y1 := K.cell 1 rfl
  have y2 := K.cell 2 rfl
  have y3 := K.cell 3 rfl
  have y4 := K.cell 4 rfl
  have y5 := K.cell 5 rfl
  have y6 := K.cell 6 rfl
  exact bodyPost_ret (v := .agg #[.int .i64 nm, .int .i64 fr, .int .i64 tq, .int .i64 jo, .int .i64 ra, .int .i64 mo, .slice B4 N.length d4]) (by simp [results, Tryz.results160, go_sem, y0, y1, y2, y3, y4, y5, y6]) rfl ⟨B4, d4, rfl, OwnR.rebase ((OwnR.put (OwnR.put (OwnR.put (OwnR.put (OwnR.put (OwnR.put (OwnR.put (OwnR.put ho4 w.heap.size 6 (.slice B4 N.length d4) (by omega)) (w.heap.size + 1) 0 (.int .i64 nm) (by omega)) (w.heap.size + 1) 1 (.int .i64 fr) (by omega)) (w.heap.size + 1) 2 (.int .i64 tq) (by omega)) (w.heap.size + 1) 3 (.int .i64 jo) (by omega)) (w.heap.size + 1) 4 (.int .i64 ra) (by omega)) (w.heap.size + 1) 5 (.int .i64 mo) (by omega)) (w.heap.size + 1) 6 (.slice B4 N.length d4) (by omega))) (by omega), ((((((((S4.setCell (Nat.le_refl _) (.slice B4 N.length d4)).setCell (p := ⟨w.heap.size + 1, 0, none⟩) (Nat.le_succ _) (.int .i64 nm)).setCell (p := ⟨w.heap.size + 1, 1, none⟩) (Nat.le_succ _) (.int .i64 fr)).setCell (p := ⟨w.heap.size + 1, 2, none⟩) (Nat.le_succ _) (.int .i64 tq)).setCell (p := ⟨w.heap.size + 1, 3, none⟩) (Nat.le_succ _) (.int .i64 jo)).setCell (p := ⟨w.heap.size + 1, 4, none⟩) (Nat.le_succ _) (.int .i64 ra)).setCell (p := ⟨w.heap.size + 1, 5, none⟩) (Nat.le_succ _) (.int .i64 mo)).setCell (p := ⟨w.heap.size + 1, 6, none⟩) (Nat.le_succ _) (.slice B4 N.length d4))⟩

/-- Rules handed back in a book, their rows new. -/
def RetM (w : World) (R : List TRule) (e : Ending) (w' : World) : Prop :=
  ∃ (L : List MRule) (B : Option Addr) (d : Nat), Hid (L.map Prod.fst = R) ∧ e = .returned (.agg #[.slice B L.length d]) ∧ OwnM w' w.heap.size (.slice B L.length d) L ∧ Same w w'

set_option maxRecDepth 100000 in
set_option maxHeartbeats 2000000 in
theorem l10Copy_any (A : Option Addr) (c : Nat) (R : List TRule) (base : Nat) (w : World) (hz : R.length ≤ 1000) (hN : SmallR R 1048576) (hO : OwnRules w base (.slice A R.length c) R) :
    Calls Tryz.prog 159 #[.agg #[.slice A R.length c]] w (RetM w R) := by
  go_enter Tryz.func159, Tryz.ntmps159
  go_wp2
  have h1 : BoxAt (((w.alloc (.cells #[.slice A R.length c] 26)).alloc (.cells #[.slice none 0 0] 26)).alloc (.cells #[.slice none 0 0] 26)) (w.heap.size) 26 [.slice A R.length c] := by simpa using (BoxAt.alloc (BoxAt.alloc (BoxAt.new w 26 [.slice A R.length c]) (.cells #[.slice none 0 0] 26)) (.cells #[.slice none 0 0] 26))
  have h2 : BoxAt (((w.alloc (.cells #[.slice A R.length c] 26)).alloc (.cells #[.slice none 0 0] 26)).alloc (.cells #[.slice none 0 0] 26)) (w.heap.size + 1) 26 [.slice none 0 0] := by simpa using (BoxAt.alloc (BoxAt.new (w.alloc (.cells #[.slice A R.length c] 26)) 26 [.slice none 0 0]) (.cells #[.slice none 0 0] 26))
  have h3 : BoxAt (((w.alloc (.cells #[.slice A R.length c] 26)).alloc (.cells #[.slice none 0 0] 26)).alloc (.cells #[.slice none 0 0] 26)) (w.heap.size + 1 + 1) 26 [.slice none 0 0] := by simpa using (BoxAt.new ((w.alloc (.cells #[.slice A R.length c] 26)).alloc (.cells #[.slice none 0 0] 26)) 26 [.slice none 0 0])
  have hs0 := (Same.alloc (Same.alloc (Same.alloc (Same.refl w) (.cells #[.slice A R.length c] 26)) (.cells #[.slice none 0 0] 26)) (.cells #[.slice none 0 0] 26))
  generalize (((w.alloc (.cells #[.slice A R.length c] 26)).alloc (.cells #[.slice none 0 0] 26)).alloc (.cells #[.slice none 0 0] 26)) = w0 at *
  have nn := h3.lt
  go_loopw [4] (fun i wr => ∃ (k : Nat) (B : Option Addr) (d : Nat) (L : List MRule), k ≤ R.length ∧ i = .int .i64 k ∧ Hid (L.map Prod.fst = R.take k) ∧ L.length ≤ k ∧ BoxAt wr w.heap.size 26 [.slice A R.length c] ∧ BoxAt wr (w.heap.size + 1) 26 [.slice none 0 0] ∧ BoxAt wr (w.heap.size + 1 + 1) 26 [.slice B L.length d] ∧ OwnM wr (w.heap.size + 1 + 1 + 1) (.slice B L.length d) L ∧ Same w wr) (fun i _ => R.length - (intOf i).toNat)
  case atStart => exact ⟨0, none, 0, [], Nat.zero_le _, rfl, rfl, Nat.le_refl _, h1, h2, h3, OwnM.nil _ _, hs0⟩
  case round =>
    clear h1 h2 h3 hs0
    obtain ⟨k, B, d, L, hk, rfl, HM, hl, h1, h2, h3, hm, hs⟩ := hrel
    have n3 := h3.lt
    have b1 := h1.cell 0 rfl
    by_cases hlt : k < R.length
    · obtain ⟨g, r, B1, d1, rfl, hg, hc, HX, oN⟩ := (hO.same hs).atk hlt
      have hrn := hN r (List.mem_of_getElem? HX.out)
      obtain ⟨nm, fr, tq, jo, ra, mo, N⟩ := r
      obtain ⟨c0, c1, c2, c3, c4, c5, c6⟩ := rule_cells hc
      dsimp only at hrn oN
      clear hc
      have HT := Lib.hid (map_take_push HM.out HX.out)
      have hnil := Lib.hid (OwnR.nil_c oN)
      have hdr := (Same.refl wr).drew
      have p0 : (0 : Int) ≤ (k : Int) := by omega
      have p1 : (k : Int) < (R.length : Int) := by omega
      have b3 := h3.cell 0 rfl
      go_wp2
      go_region_law
        (first
          | (refine step_of (by rfl) ?_; go_simp; go_at_call 160; refine (l10Rule_any nm fr tq jo ra mo B1 d1 N _ hrn hnil.out ((OwnR.recs cNode_len oN).same hdr)).mono ?_; rintro e w2 ⟨B2, d2, rfl, oN2, hs2⟩; dsimp only; dsimp only at oN2; (have t2 := hdr.trans hs2); (have al := (Same.refl w2).alloc (.cells #[.int .i64 nm, .int .i64 fr, .int .i64 tq, .int .i64 jo, .int .i64 ra, .int .i64 mo, .slice B2 N.length d2] 114)); (have t3 := t2.trans al); (have e3 := (h3.same t2).cell 0 rfl); (have f3 := (h3.same t3).cell 0 rfl); (have n4 := (h3.same t2).lt))
          | (refine step_oneRule _ (by rfl) (.tmp 14) (.tmp 21) (by rfl) (w.heap.size + 1 + 1 + 1) _ L (by rfl) (OwnR.same hm.1 t3) w2.heap.size 1 (⟨nm, fr, tq, jo, ra, mo, N⟩, B2, d2) (by rfl) (by intro j u hu; exact cells_new rfl j u hu) (by omega) (by simp) (by simp; omega) ?_; intro v' w5 ho5 hup hfr; (have hm5 := OwnM.push (OwnM.same hm t3) ho5 hup hfr (OwnR.rebase (OwnR.same oN2 al) (by show _ ≤ wr.heap.size; omega)) (Sep.new hm.1 oN2 (Nat.le_refl _))); (have hzv := OwnR.zn hm.1); (obtain ⟨P, hP⟩ : ∃ P, P = L ++ [((⟨nm, fr, tq, jo, ra, mo, N⟩ : TRule), B2, d2)] := ⟨_, rfl⟩); (rw [← hP] at hm5 ho5); (have hPl : P.length ≤ k + 1 := by rw [hP]; simp; omega); (have HP := Lib.hid hP); (clear hP); (obtain ⟨B5, d5, rfl⟩ := OwnR.form ho5); (have k1 := grown_box hup (h1.same t3) (fun e => by have := (hzv _ e).1; omega)); (have k2 := grown_box hup (h2.same t3) (fun e => by have := (hzv _ e).1; omega)); (have k3 := grown_box hup (h3.same t3) (fun e => by have := (hzv _ e).1; omega)); (have S5 := grown_same (hs.trans t3) hup (fun b hb => by have := (hzv b hb).1; omega)); (have q3 := k3.frozen 0); (have q4 := k3.cell 0 rfl)))
      all_goals
        have j1 := k1.other (k := w.heap.size + 1 + 1) (j := 0) (.slice B5 P.length d5) (by omega)
        have j2 := k2.other (k := w.heap.size + 1 + 1) (j := 0) (.slice B5 P.length d5) (by omega)
        have j3 := k3.set 0 (.slice B5 P.length d5)
        have jm := OwnM.put hm5 (w.heap.size + 1 + 1) 0 (.slice B5 P.length d5) (by omega)
        have jS := S5.setCell (p := ⟨w.heap.size + 1 + 1, 0, none⟩) (by show _ ≤ w.heap.size + 1 + 1; omega) (.slice B5 P.length d5)
        clear k1 k2 k3 q3 q4 e3 f3 hm hup hfr
        go_wp2
        go_roundw
        case rel => exact ⟨k + 1, _, _, P, hlt, by go_num, by show _ = _; rw [HP.out]; exact HT.out _, hPl, j1, j2, j3, jm, jS⟩
        case measure => simp [intOf]; omega
    · have b3 := h3.cell 0 rfl
      have q0 := h2.frozen 0
      have qc := h2.cell 0 rfl
      have q1 := (h2.set 0 (.slice B L.length d)).cell 0 rfl
      have jm := OwnM.put hm (w.heap.size + 1) 0 (.slice B L.length d) (by omega)
      have jS := hs.setCell (p := ⟨w.heap.size + 1, 0, none⟩) (by show _ ≤ w.heap.size + 1; omega) (.slice B L.length d)
      go_wp2
      exact bodyPost_ret (v := .agg #[.slice B L.length d]) (by simp [results, Tryz.results159, go_sem, q1]) rfl ⟨L, B, d, by show _ = _; rw [HM.out]; exact List.take_of_length_le (by omega), rfl, OwnM.rebase jm (by omega), jS⟩
end Go.Proofs.YtjfmknhnplefnaaGreat
end

section
/-
  A rule added to a book by the specification.
-/
namespace Go.Proofs.YtjfmknhnplefnaaGreat
open Go.RowKit
set_option linter.unusedVariables false
set_option linter.unusedSimpArgs false

theorem owns_put {w : World} {base : Nat} {e : TypeId} {size n : Nat} {v : Value} {xs : List Value} (h : w.ownsRow base e size v n xs) {g : Nat} (hne : v.ownBlock ≠ some g) (j : Nat) (u : Value) : (w.setCell ⟨g, j, none⟩ u).ownsRow base e size v n xs := by
  cases hv : v.ownBlock with
  | none => exact (upd_setCell w g j u).owns (l := g + 1) (h := g + 1) h (fun b hb => by rw [hv] at hb; cases hb) (.inr (Nat.le_refl _))
  | some b =>
    rw [hv] at hne
    have hbg : b ≠ g := fun e => hne (by rw [e])
    exact (upd_setCell w g j u).owns (l := b) (h := b + 1) h (fun b' hb => by rw [hv] at hb; cases hb; omega) (by omega)
theorem OwnM.setAt {a : World} {base : Nat} {v : Value} {L : List MRule} (h : OwnM a base v L) {g : Nat} (hv : v.ownBlock ≠ some g) (hx : ∀ x ∈ L, (Value.slice x.2.1 x.1.nodes.length x.2.2).ownBlock ≠ some g) (j : Nat) (u : Value) : OwnM (a.setCell ⟨g, j, none⟩ u) base v L :=
  ⟨owns_put h.1 hv j u, fun x hx' => ⟨owns_put (h.2 x hx').1 (hx x hx') j u, (h.2 x hx').2⟩⟩

/-- What AddRule hands back. -/
def RetAdd (w : World) (n : Nat) (e : Ending) (w' : World) : Prop :=
  ∃ (L : List MRule) (B : Option Addr) (d : Nat) (bb : Bool), e = .returned (.tuple #[.agg #[.slice B L.length d], .bool bb]) ∧ L.length ≤ n ∧ SmallR (L.map Prod.fst) 1048576 ∧ OwnM w' w.heap.size (.slice B L.length d) L ∧ Same w w'

set_option maxRecDepth 100000 in
set_option maxHeartbeats 2000000 in
theorem addRule_any (A : Option Addr) (c : Nat) (R : List TRule) (base base1 : Nat) (nm fr tq jo ra mo : Int) (B : Option Addr) (d : Nat) (N : List TNode) (w : World) (hz : R.length ≤ 900) (hN : SmallR R 1048576) (hO : OwnRules w base (.slice A R.length c) R) (hNl : N.length ≤ 1048576) (hNo : OwnNode w base1 (.slice B N.length d) N) :
    Calls Tryz.prog 102 #[.agg #[.slice A R.length c], .agg #[.int .i64 nm, .int .i64 fr, .int .i64 tq, .int .i64 jo, .int .i64 ra, .int .i64 mo, .slice B N.length d]] w (RetAdd w (R.length + 1)) := by
  go_enter Tryz.func102, Tryz.ntmps102
  go_wp2_with fail
  have h1 : BoxAt (((w.alloc (.cells #[.slice A R.length c] 26)).alloc (.cells #[.int .i64 nm, .int .i64 fr, .int .i64 tq, .int .i64 jo, .int .i64 ra, .int .i64 mo, .slice B N.length d] 114)).alloc (.cells #[.slice none 0 0] 26)) (w.heap.size) 26 [.slice A R.length c] := by simpa using (BoxAt.alloc (BoxAt.alloc (BoxAt.new w 26 [.slice A R.length c]) (.cells #[.int .i64 nm, .int .i64 fr, .int .i64 tq, .int .i64 jo, .int .i64 ra, .int .i64 mo, .slice B N.length d] 114)) (.cells #[.slice none 0 0] 26))
  have h2 : BoxAt (((w.alloc (.cells #[.slice A R.length c] 26)).alloc (.cells #[.int .i64 nm, .int .i64 fr, .int .i64 tq, .int .i64 jo, .int .i64 ra, .int .i64 mo, .slice B N.length d] 114)).alloc (.cells #[.slice none 0 0] 26)) (w.heap.size + 1) 114 [.int .i64 nm, .int .i64 fr, .int .i64 tq, .int .i64 jo, .int .i64 ra, .int .i64 mo, .slice B N.length d] := by simpa using (BoxAt.alloc (BoxAt.new (w.alloc (.cells #[.slice A R.length c] 26)) 114 [.int .i64 nm, .int .i64 fr, .int .i64 tq, .int .i64 jo, .int .i64 ra, .int .i64 mo, .slice B N.length d]) (.cells #[.slice none 0 0] 26))
  have h3 : BoxAt (((w.alloc (.cells #[.slice A R.length c] 26)).alloc (.cells #[.int .i64 nm, .int .i64 fr, .int .i64 tq, .int .i64 jo, .int .i64 ra, .int .i64 mo, .slice B N.length d] 114)).alloc (.cells #[.slice none 0 0] 26)) (w.heap.size + 1 + 1) 26 [.slice none 0 0] := by simpa using (BoxAt.new ((w.alloc (.cells #[.slice A R.length c] 26)).alloc (.cells #[.int .i64 nm, .int .i64 fr, .int .i64 tq, .int .i64 jo, .int .i64 ra, .int .i64 mo, .slice B N.length d] 114)) 26 [.slice none 0 0])
  have hs0 := (Same.alloc (Same.alloc (Same.alloc (Same.refl w) (.cells #[.slice A R.length c] 26)) (.cells #[.int .i64 nm, .int .i64 fr, .int .i64 tq, .int .i64 jo, .int .i64 ra, .int .i64 mo, .slice B N.length d] 114)) (.cells #[.slice none 0 0] 26))
  generalize (((w.alloc (.cells #[.slice A R.length c] 26)).alloc (.cells #[.int .i64 nm, .int .i64 fr, .int .i64 tq, .int .i64 jo, .int .i64 ra, .int .i64 mo, .slice B N.length d] 114)).alloc (.cells #[.slice none 0 0] 26)) = w0 at *
  have n0 := h3.lt
  refine (l10Copy_any A c R base _ (by omega) hN (hO.same hs0)).mono ?_
  rintro e w1 ⟨L, B1, d1, HM, rfl, hm, hs1⟩
  have S1 := hs0.trans hs1
  replace h1 := h1.same hs1
  replace h2 := h2.same hs1
  replace h3 := h3.same hs1
  have n1 := hs1.size
  have hLl : L.length ≤ R.length := by rw [← HM.out, List.length_map]; exact Nat.le_refl _
  have hz1 := OwnR.zn hm.1
  have hzx := Lib.hid (fun x (hx : x ∈ L) => OwnR.zn (hm.2 x hx).1)
  have h4 := BoxAt.new w1 26 [.slice B1 L.length d1]
  have al := (Same.refl w1).alloc (.cells #[.slice B1 L.length d1] 26)
  have S2 := S1.trans al
  replace h1 := h1.same al
  replace h2 := h2.same al
  replace h3 := h3.same al
  replace hm := hm.same al
  have n2 := h4.lt
  clear hs0 hs1 S1 al
  have hnil := Lib.hid (OwnR.nil_c hNo)
  have hB := hNo.same S2
  have r0 := h2.cell 0 rfl
  have r1 := h2.cell 1 rfl
  have r2 := h2.cell 2 rfl
  have r3 := h2.cell 3 rfl
  have r4 := h2.cell 4 rfl
  have r5 := h2.cell 5 rfl
  have r6 := h2.cell 6 rfl
  have b4 := h4.cell 0 rfl
  have hdr := (Same.refl (w1.alloc (.cells #[.slice B1 L.length d1] 26))).drew
  go_wp2
  generalize w1.alloc (.cells #[.slice B1 L.length d1] 26) = w2 at *
  go_region_law
    (first
      | (refine step_of (by rfl) ?_; go_simp; go_at_call 160; refine (l10Rule_any nm fr tq jo ra mo B d N _ hNl hnil.out ((OwnR.recs cNode_len hB).same hdr)).mono ?_; rintro e w3 ⟨B2, d2, rfl, oN2, hs2⟩; dsimp only; dsimp only at oN2; (have t2 := hdr.trans hs2); (have al := (Same.refl w3).alloc (.cells #[.int .i64 nm, .int .i64 fr, .int .i64 tq, .int .i64 jo, .int .i64 ra, .int .i64 mo, .slice B2 N.length d2] 114)); (have t3 := t2.trans al); (have e4 := (h4.same t2).cell 0 rfl); (have f4 := (h4.same t3).cell 0 rfl); (have n4 := (h4.same t2).lt); (have s0 := (h2.same t2).cell 0 rfl); (have s1 := (h2.same t2).cell 1 rfl); (have s2 := (h2.same t2).cell 2 rfl); (have s3 := (h2.same t2).cell 3 rfl); (have s4 := (h2.same t2).cell 4 rfl); (have s5 := (h2.same t2).cell 5 rfl); (have s6 := (h2.same t2).cell 6 rfl))
      | (refine step_oneRule _ (by rfl) (.tmp 10) (.tmp 13) (by rfl) w0.heap.size _ L (by rfl) (OwnR.same hm.1 t3) w3.heap.size 1 (⟨nm, fr, tq, jo, ra, mo, N⟩, B2, d2) (by rfl) (by intro j u hu; exact cells_new rfl j u hu) (by omega) (by simp) (by simp; omega) ?_; intro v' w5 ho5 hup hfr; (have hm5 := OwnM.push (OwnM.same hm t3) ho5 hup hfr (OwnR.rebase (OwnR.same oN2 al) (by show _ ≤ w2.heap.size; omega)) (Sep.new hm.1 oN2 (Nat.le_refl _))); (have hb5 : v'.ownBlock ≠ some w1.heap.size := fun e => by rcases hfr _ e with h | h; (have := (hz1 _ h).2; omega); (have := t3.size; omega)); (have hx5 : ∀ x ∈ L ++ [((⟨nm, fr, tq, jo, ra, mo, N⟩ : TRule), B2, d2)], (Value.slice x.2.1 x.1.nodes.length x.2.2).ownBlock ≠ some w1.heap.size := fun x hx e => by rcases List.mem_append.1 hx with h | h; (have := (hzx.out x h _ e).2; omega); (simp at h; subst h; have h9 := (OwnR.zn oN2 _ e).1; have : w2.heap.size ≤ w1.heap.size := h9; omega)); (obtain ⟨P, hP⟩ : ∃ P, P = L ++ [((⟨nm, fr, tq, jo, ra, mo, N⟩ : TRule), B2, d2)] := ⟨_, rfl⟩); (rw [← hP] at hm5 ho5 hx5); (have hPl : P.length ≤ R.length + 1 := by rw [hP]; simp; omega); (have HP := Lib.hid hP); (clear hP); (obtain ⟨B5, d5, rfl⟩ := OwnR.form ho5); (have k1 := grown_box hup (h1.same t3) (fun e => by have := (hz1 _ e).1; omega)); (have k3 := grown_box hup (h3.same t3) (fun e => by have := (hz1 _ e).1; omega)); (have k4 := grown_box hup (h4.same t3) (fun e => by have := (hz1 _ e).2; omega)); (have S5 := grown_same (S2.trans t3) hup (fun b hb => by have := (hz1 b hb).1; omega)); (have q3 := k4.frozen 0); (have q4 := k4.cell 0 rfl)))
  all_goals
    have j1 := k1.other (k := w1.heap.size) (j := 0) (.slice B5 P.length d5) (by omega)
    have j3 := k3.other (k := w1.heap.size) (j := 0) (.slice B5 P.length d5) (by omega)
    have j4 := k4.set 0 (.slice B5 P.length d5)
    have jm := OwnM.setAt hm5 hb5 hx5 0 (.slice B5 P.length d5)
    have jS := S5.setCell (p := ⟨w1.heap.size, 0, none⟩) (by show _ ≤ w1.heap.size; omega) (.slice B5 P.length d5)
    have hPN : SmallR (P.map Prod.fst) 1048576 := by
      intro r hr
      rw [HP.out, List.map_append, HM.out] at hr
      rcases List.mem_append.1 hr with h | h
      · exact hN r h
      · simp at h; subst h; exact hNl
    clear k1 k3 k4 hm5 hb5 hx5 S5 hup hfr ho5 q3 q4 s0 s1 s2 s3 s4 s5 s6 e4 f4 n4 t2 t3 al oN2 hs2 HP HM r0 r1 r2 r3 r4 r5 r6 b4 hdr h1 h2 h3 h4 hm hB hnil hz1 hzx S2
    generalize w5.setCell ⟨w1.heap.size, 0, none⟩ (.slice B5 P.length d5) = w6 at *
    have b1 := j1.cell 0 rfl
    go_wp2_with fail
    refine (sBookOk_any A c R _ (by omega) hO.cap hN (hO.rules.same jS)).mono ?_
    rintro e w7 ⟨rfl, t7⟩
    have jS7 := jS.trans t7
    replace j1 := j1.same t7
    replace j3 := j3.same t7
    replace j4 := j4.same t7
    replace jm := jm.same t7
    clear t7 jS b1
    cases bookOk R
    · have b1 := j1.cell 0 rfl
      go_wp2_with fail
      refine (l10Copy_any A c R base _ (by omega) hN (hO.same jS7)).mono ?_
      rintro e w9 ⟨M, B9, d9, HM9, rfl, hm9, t9⟩
      have S9 := jS7.trans t9
      have n8 := j3.lt
      replace j3 := j3.same t9
      have n9 := jS7.size
      have hml : M.length ≤ R.length := by rw [← HM9.out, List.length_map]; exact Nat.le_refl _
      have hms : SmallR (M.map Prod.fst) 1048576 := by rw [HM9.out]; exact hN
      clear HM9 b1
      have q0 := j3.frozen 0
      have qc := j3.cell 0 rfl
      have q1 := (j3.set 0 (.slice B9 M.length d9)).cell 0 rfl
      have zm := OwnM.put hm9 (w.heap.size + 1 + 1) 0 (.slice B9 M.length d9) (by omega)
      have zS := S9.setCell (p := ⟨w.heap.size + 1 + 1, 0, none⟩) (by show _ ≤ w.heap.size + 1 + 1; omega) (.slice B9 M.length d9)
      go_wp2
      exact bodyPost_ret (v := .tuple #[.agg #[.slice B9 M.length d9], .bool false]) (by simp [results, Tryz.results102, go_sem, q1]) rfl ⟨M, B9, d9, false, rfl, by omega, hms, OwnM.rebase zm (by omega), zS⟩
    · have b4 := j4.cell 0 rfl
      have hbk := sBookOk_any B5 d5 (P.map Prod.fst) w7 (by rw [List.length_map]; omega) (by rw [List.length_map]; exact jm.rules.cap) hPN jm.rules.rules
      rw [List.length_map] at hbk
      have HBK := Lib.hid hbk
      clear hbk
      go_wp2_with fail
      refine HBK.out.mono ?_
      rintro e w8 ⟨rfl, t8⟩
      have jS8 := jS7.trans t8
      replace j1 := j1.same t8
      replace j3 := j3.same t8
      replace j4 := j4.same t8
      replace jm := jm.same t8
      clear t8 jS7 b4 HBK
      cases bookOk (P.map Prod.fst)
      · have b1 := j1.cell 0 rfl
        go_wp2_with fail
        refine (l10Copy_any A c R base _ (by omega) hN (hO.same jS8)).mono ?_
        rintro e w9 ⟨M, B9, d9, HM9, rfl, hm9, t9⟩
        have S9 := jS8.trans t9
        have n8 := j3.lt
        replace j3 := j3.same t9
        have n9 := jS8.size
        have hml : M.length ≤ R.length := by rw [← HM9.out, List.length_map]; exact Nat.le_refl _
        have hms : SmallR (M.map Prod.fst) 1048576 := by rw [HM9.out]; exact hN
        clear HM9 b1
        have q0 := j3.frozen 0
        have qc := j3.cell 0 rfl
        have q1 := (j3.set 0 (.slice B9 M.length d9)).cell 0 rfl
        have zm := OwnM.put hm9 (w.heap.size + 1 + 1) 0 (.slice B9 M.length d9) (by omega)
        have zS := S9.setCell (p := ⟨w.heap.size + 1 + 1, 0, none⟩) (by show _ ≤ w.heap.size + 1 + 1; omega) (.slice B9 M.length d9)
        go_wp2
        exact bodyPost_ret (v := .tuple #[.agg #[.slice B9 M.length d9], .bool false]) (by simp [results, Tryz.results102, go_sem, q1]) rfl ⟨M, B9, d9, false, rfl, by omega, hms, OwnM.rebase zm (by omega), zS⟩
      · have b4 := j4.cell 0 rfl
        have n8 := j3.lt
        have q0 := j3.frozen 0
        have qc := j3.cell 0 rfl
        have q1 := (j3.set 0 (.slice B5 P.length d5)).cell 0 rfl
        have zm := OwnM.put jm (w.heap.size + 1 + 1) 0 (.slice B5 P.length d5) (by omega)
        have zS := jS8.setCell (p := ⟨w.heap.size + 1 + 1, 0, none⟩) (by show _ ≤ w.heap.size + 1 + 1; omega) (.slice B5 P.length d5)
        go_wp2
        exact bodyPost_ret (v := .tuple #[.agg #[.slice B5 P.length d5], .bool true]) (by simp [results, Tryz.results102, go_sem, q1]) rfl ⟨P, B5, d5, true, rfl, hPl, hPN, OwnM.rebase zm (by omega), zS⟩
end Go.Proofs.YtjfmknhnplefnaaGreat
end

section
/-
  Rules, drawn.
-/
namespace Go.Proofs.YtjfmknhnplefnaaGreat
open Go.RowKit
set_option linter.unusedVariables false
set_option linter.unusedSimpArgs false

/-- Literal rows of nodes. -/
theorem ownNode5 (a : World) (p q : Int) {base : Nat} (hb : base ≤ a.heap.size) :
    OwnNode (a.alloc (.cells #[.int .i64 2, .int .i64 0, .int .i64 0, .int .i64 0, .int .i64 0, .int .i64 0, .int .i64 1, .int .i64 0, .int .i64 0, .int .i64 0, .int .i64 p, .int .i64 q, .int .i64 5, .int .i64 0, .int .i64 1, .int .i64 0, .int .i64 0, .int .i64 0, .int .i64 2, .int .i64 1, .int .i64 0, .int .i64 0, .int .i64 0, .int .i64 0, .int .i64 5, .int .i64 2, .int .i64 3, .int .i64 0, .int .i64 0, .int .i64 0] 191)) base (.slice (some ⟨a.heap.size, 0, none⟩) 5 5) [(2, 0, 0, 0, 0, 0), (1, 0, 0, 0, p, q), (5, 0, 1, 0, 0, 0), (2, 1, 0, 0, 0, 0), (5, 2, 3, 0, 0, 0)] :=
  World.ownsRow_lit _ _ 5 hb (by unfold maxLen; omega) (by simp)
theorem ownNode2 (a : World) (r s : Int) {base : Nat} (hb : base ≤ a.heap.size) :
    OwnNode (a.alloc (.cells #[.int .i64 2, .int .i64 r, .int .i64 0, .int .i64 0, .int .i64 0, .int .i64 0, .int .i64 s, .int .i64 4, .int .i64 5, .int .i64 0, .int .i64 0, .int .i64 0] 191)) base (.slice (some ⟨a.heap.size, 0, none⟩) 2 2) [(2, r, 0, 0, 0, 0), (s, 4, 5, 0, 0, 0)] :=
  World.ownsRow_lit _ _ 2 hb (by unfold maxLen; omega) (by simp)

/-- A rule handed back, drawn. -/
def DrawnRule (g : Nat) (w : World) (e : Ending) (w' : World) : Prop :=
  ∃ (nm fr tq jo ra mo : Int) (N : List TNode) (B : Option Addr) (d : Nat), e = .returned (.agg #[.int .i64 nm, .int .i64 fr, .int .i64 tq, .int .i64 jo, .int .i64 ra, .int .i64 mo, .slice B N.length d]) ∧ N.length ≤ 10 ∧ OwnNode w' w.heap.size (.slice B N.length d) N ∧ Cur w' g ∧ Upd g (g + 1) w w'

set_option maxRecDepth 100000 in
set_option maxHeartbeats 2000000 in
theorem l22Rule_any (g : Nat) (w : World) (hc : Cur w g) : Calls Tryz.prog 103 #[.pointer (some ⟨g, 0, none⟩)] w (DrawnRule g w) := by
  have hg := hc.lt
  go_enter Tryz.func103, Tryz.ntmps103
  go_wp2_with fail
  have h1 : BoxAt (w.alloc (.cells #[.int .i64 0, .int .i64 0, .int .i64 0, .int .i64 0, .int .i64 0, .int .i64 0, .slice none 0 0] 114)) (w.heap.size) 114 [.int .i64 0, .int .i64 0, .int .i64 0, .int .i64 0, .int .i64 0, .int .i64 0, .slice none 0 0] := by simpa using (BoxAt.new w 114 [.int .i64 0, .int .i64 0, .int .i64 0, .int .i64 0, .int .i64 0, .int .i64 0, .slice none 0 0])
  have hs0 := (Same.alloc (Same.refl w) (.cells #[.int .i64 0, .int .i64 0, .int .i64 0, .int .i64 0, .int .i64 0, .int .i64 0, .slice none 0 0] 114))
  generalize (w.alloc (.cells #[.int .i64 0, .int .i64 0, .int .i64 0, .int .i64 0, .int .i64 0, .int .i64 0, .slice none 0 0] 114)) = w0 at *
  have l0 := h1.lt
  refine (l01Below_any g 9 _ (by omega) (by omega) (hc.same hs0)).mono ?_
  rintro e w1 ⟨x, rfl, x0, x1, hc1, hu1⟩
  replace h1 := h1.upd hu1 (.inr (by omega))
  have U1 := (hs0.upd g (g + 1)).trans hu1
  clear hu1 hs0
  have kx : IntKind.i64.wrap (1 + x) = 1 + x := IntWalk.i64_in _ (by omega)
  go_wp2_with fail
  refine (sFracNew_any (1 + x) 4000 _).mono ?_
  obtain ⟨p, q, pb, hpq⟩ : ∃ (p q : Int) (pb : Bool), p = (fracNew (1 + x) 4000).1 ∧ q = (fracNew (1 + x) 4000).2.1 ∧ pb = (fracNew (1 + x) 4000).2.2 := ⟨_, _, _, rfl, rfl, rfl⟩
  rw [← hpq.1, ← hpq.2.1, ← hpq.2.2]
  clear hpq
  rintro e w2 ⟨rfl, hs2⟩
  replace h1 := h1.same hs2
  have hc2 := hc1.same hs2
  have U2 := U1.same hs2
  clear hs2 U1 hc1
  have n2 := h1.lt
  have al := (Same.refl w2).alloc (.cells #[.int .i64 p, .int .i64 q] 101)
  replace h1 := h1.same al
  replace hc2 := hc2.same al
  replace U2 := U2.same al
  have n3 := al.size
  clear al
  have own := ownNode5 (w2.alloc (.cells #[.int .i64 p, .int .i64 q] 101)) p q (Nat.le_refl _)
  have al := (Same.refl (w2.alloc (.cells #[.int .i64 p, .int .i64 q] 101))).alloc (.cells #[.int .i64 2, .int .i64 0, .int .i64 0, .int .i64 0, .int .i64 0, .int .i64 0, .int .i64 1, .int .i64 0, .int .i64 0, .int .i64 0, .int .i64 p, .int .i64 q, .int .i64 5, .int .i64 0, .int .i64 1, .int .i64 0, .int .i64 0, .int .i64 0, .int .i64 2, .int .i64 1, .int .i64 0, .int .i64 0, .int .i64 0, .int .i64 0, .int .i64 5, .int .i64 2, .int .i64 3, .int .i64 0, .int .i64 0, .int .i64 0] 191)
  replace h1 := h1.same al
  replace hc2 := hc2.same al
  replace U2 := U2.same al
  clear al
  simp only [World.size_alloc] at own n3
  go_wp2_with fail
  generalize (w2.alloc (.cells #[.int .i64 p, .int .i64 q] 101)).alloc (.cells #[.int .i64 2, .int .i64 0, .int .i64 0, .int .i64 0, .int .i64 0, .int .i64 0, .int .i64 1, .int .i64 0, .int .i64 0, .int .i64 0, .int .i64 p, .int .i64 q, .int .i64 5, .int .i64 0, .int .i64 1, .int .i64 0, .int .i64 0, .int .i64 0, .int .i64 2, .int .i64 1, .int .i64 0, .int .i64 0, .int .i64 0, .int .i64 0, .int .i64 5, .int .i64 2, .int .i64 3, .int .i64 0, .int .i64 0, .int .i64 0] 191) = w3 at *
  have n4 := (OwnR.zn own _ rfl).2
  refine (l01Once_any g 2 _ (by omega) (by omega) hc2).mono ?_
  rintro e w4 ⟨b1, rfl, hc4, hu4⟩
  replace h1 := h1.upd hu4 (.inr (by omega))
  replace own := OwnR.turn own hu4 (by omega)
  have U4 := U2.trans hu4
  have n5 := hu4.size
  clear hu4 hc2 U2
  cases b1
  · have hc6 := hc4
    have U6 := U4
    clear hc4 U4
    go_wp2_with fail
    refine (l01Below_any g 4 _ (by omega) (by omega) hc6).mono ?_
    rintro e w7 ⟨mo, rfl, m0, m1, hc7, hu7⟩
    replace h1 := h1.upd hu7 (.inr (by omega))
    replace own := OwnR.turn own hu7 (by omega)
    have U7 := U6.trans hu7
    have n7 := hu7.size
    clear hu7 hc6 U6
    have km : IntKind.i64.wrap (1 + mo) = 1 + mo := IntWalk.i64_in _ (by omega)
    have hz := OwnR.zn own
    have h6 := BoxAt.new w7 114 [.int .i64 1, .int .i64 0, .int .i64 3600, .int .i64 3600, .int .i64 0, .int .i64 (1 + mo), .slice (some ⟨w2.heap.size + 1, 0, none⟩) 5 5]
    have al := (Same.refl w7).alloc (.cells #[.int .i64 1, .int .i64 0, .int .i64 3600, .int .i64 3600, .int .i64 0, .int .i64 (1 + mo), .slice (some ⟨w2.heap.size + 1, 0, none⟩) 5 5] 114)
    replace h1 := h1.same al
    replace own := OwnR.same own al
    replace hc7 := hc7.same al
    replace U7 := U7.same al
    have n8 := h6.lt
    clear al
    go_wp2_with fail
    generalize w7.alloc (.cells #[.int .i64 1, .int .i64 0, .int .i64 3600, .int .i64 3600, .int .i64 0, .int .i64 (1 + mo), .slice (some ⟨w2.heap.size + 1, 0, none⟩) 5 5] 114) = w8 at *
    refine (l01Once_any g 2 _ (by omega) (by omega) hc7).mono ?_
    rintro e w9 ⟨b2, rfl, hc9, hu9⟩
    replace h1 := h1.upd hu9 (.inr (by omega))
    replace h6 := h6.upd hu9 (.inr (by omega))
    replace own := OwnR.turn own hu9 (by omega)
    have U9 := U7.trans hu9
    have m9 := hu9.size
    clear hu9 U7
    cases b2
    · have hcz := hc9
      have Uz := U9
      clear hz km kx
      have b0 := h6.cell 0 rfl
      have b1 := h6.cell 1 rfl
      have b2 := h6.cell 2 rfl
      have b3 := h6.cell 3 rfl
      have b4 := h6.cell 4 rfl
      have b5 := h6.cell 5 rfl
      have b6 := h6.cell 6 rfl
      have f0 := h1.frozen 0
      have f1 := h1.frozen 1
      have f2 := h1.frozen 2
      have f3 := h1.frozen 3
      have f4 := h1.frozen 4
      have f5 := h1.frozen 5
      have f6 := h1.frozen 6
      have c0 := h1.cell 0 rfl
      have c1 := h1.cell 1 rfl
      have c2 := h1.cell 2 rfl
      have c3 := h1.cell 3 rfl
      have c4 := h1.cell 4 rfl
      have c5 := h1.cell 5 rfl
      have c6 := h1.cell 6 rfl
      have K7 := (((((((h1.set 0 (.int .i64 1)).set 1 (.int .i64 0)).set 2 (.int .i64 3600)).set 3 (.int .i64 3600)).set 4 (.int .i64 0)).set 5 (.int .i64 (1 + mo))).set 6 (.slice (some ⟨w2.heap.size + 1, 0, none⟩) 5 5))
      have y0 := K7.cell 0 rfl
      have y1 := K7.cell 1 rfl
      have y2 := K7.cell 2 rfl
      have y3 := K7.cell 3 rfl
      have y4 := K7.cell 4 rfl
      have y5 := K7.cell 5 rfl
      have y6 := K7.cell 6 rfl
      have pE := (OwnR.put (OwnR.put (OwnR.put (OwnR.put (OwnR.put (OwnR.put (OwnR.put own w.heap.size 0 (.int .i64 1) (by omega)) w.heap.size 1 (.int .i64 0) (by omega)) w.heap.size 2 (.int .i64 3600) (by omega)) w.heap.size 3 (.int .i64 3600) (by omega)) w.heap.size 4 (.int .i64 0) (by omega)) w.heap.size 5 (.int .i64 (1 + mo)) (by omega)) w.heap.size 6 (.slice (some ⟨w2.heap.size + 1, 0, none⟩) 5 5) (by omega))
      have pc := (((((((hcz.upd (upd_setCell _ w.heap.size 0 (.int .i64 1)) hg).upd (upd_setCell _ w.heap.size 1 (.int .i64 0)) hg).upd (upd_setCell _ w.heap.size 2 (.int .i64 3600)) hg).upd (upd_setCell _ w.heap.size 3 (.int .i64 3600)) hg).upd (upd_setCell _ w.heap.size 4 (.int .i64 0)) hg).upd (upd_setCell _ w.heap.size 5 (.int .i64 (1 + mo))) hg).upd (upd_setCell _ w.heap.size 6 (.slice (some ⟨w2.heap.size + 1, 0, none⟩) 5 5)) hg)
      have pU := (((((((Uz.set (j := 0) (Nat.le_refl _) (.int .i64 1)).set (j := 1) (Nat.le_refl _) (.int .i64 0)).set (j := 2) (Nat.le_refl _) (.int .i64 3600)).set (j := 3) (Nat.le_refl _) (.int .i64 3600)).set (j := 4) (Nat.le_refl _) (.int .i64 0)).set (j := 5) (Nat.le_refl _) (.int .i64 (1 + mo))).set (j := 6) (Nat.le_refl _) (.slice (some ⟨w2.heap.size + 1, 0, none⟩) 5 5))
      clear K7
      go_wp2
      exact bodyPost_ret (v := .agg #[.int .i64 1, .int .i64 0, .int .i64 3600, .int .i64 3600, .int .i64 0, .int .i64 (1 + mo), .slice (some ⟨w2.heap.size + 1, 0, none⟩) 5 5]) (by simp [results, Tryz.results103, go_sem, y0, y1, y2, y3, y4, y5, y6]) rfl ⟨_, _, _, _, _, _, [(2, 0, 0, 0, 0, 0), (1, 0, 0, 0, p, q), (5, 0, 1, 0, 0, 0), (2, 1, 0, 0, 0, 0), (5, 2, 3, 0, 0, 0)], some ⟨w2.heap.size + 1, 0, none⟩, _, rfl, by simp, OwnR.rebase pE (by omega), pc, pU⟩
    · go_wp2_with fail
      refine (l01Below_any g 60 _ (by omega) (by omega) hc9).mono ?_
      rintro e w10 ⟨fr, rfl, r0, r1, hc10, hu10⟩
      replace h1 := h1.upd hu10 (.inr (by omega))
      replace h6 := h6.upd hu10 (.inr (by omega))
      replace own := OwnR.turn own hu10 (by omega)
      have U10 := U9.trans hu10
      have m10 := hu10.size
      clear hu10 U9
      clear hc9
      have f1 := h6.frozen 1
      have c1 := h6.cell 1 rfl
      replace h1 := h1.other (k := w7.heap.size) (j := 1) (.int .i64 fr) (by omega)
      replace h6 := h6.set 1 (.int .i64 fr)
      replace own := owns_put own (g := w7.heap.size) (fun e => by have := (hz _ e).2; omega) 1 (.int .i64 fr)
      have hc11 := hc10.upd (upd_setCell _ w7.heap.size 1 (.int .i64 fr)) (by omega)
      have U11 := U10.set (g := w7.heap.size) (j := 1) (by omega) (.int .i64 fr)
      clear hc10 U10
      have d1 := h6.cell 1 rfl
      have HB := Lib.hid (fun (u : World) (h : Cur u g) => l01Below_any g 60 u (by omega) (by omega) h)
      have hdr := (Same.refl (w10.setCell ⟨w7.heap.size, 1, none⟩ (.int .i64 fr))).drew
      have l8 := h6.lt
      have k10 : IntKind.i64.wrap (fr + 10) = fr + 10 := IntWalk.i64_in _ (by omega)
      go_wp2
      generalize w10.setCell ⟨w7.heap.size, 1, none⟩ (.int .i64 fr) = w11 at *
      clear f1 c1
      go_region_law
        (first
          | (refine step_of (by rfl) ?_; go_simp; go_at_call 46; (have h7 := HB.out _ (hc11.same hdr)); (with_reducible refine Calls.mono h7 ?_); clear h7; rintro e w12 ⟨y, rfl, y0, y1, hc12, hu12⟩; dsimp only; (have g1 := (h1.same hdr).upd hu12 (.inr (by omega))); (have g6 := (h6.same hdr).upd hu12 (.inr (by omega))); (have pN := OwnR.turn (OwnR.same own hdr) hu12 (by omega)); (have U12 := (U11.same hdr).trans hu12); (have e1 := g6.cell 1 rfl); (have e2 := g6.cell 2 rfl); (have e2f := g6.frozen 2); (have ky : IntKind.i64.wrap (fr + 10 + y) = fr + 10 + y := IntWalk.i64_in _ (by omega)); (have l12 := g6.lt)))
      all_goals
        have h1 := g1.other (k := w7.heap.size) (j := 2) (.int .i64 (fr + 10 + y)) (by omega)
        have h6 := g6.set 2 (.int .i64 (fr + 10 + y))
        have own := owns_put pN (g := w7.heap.size) (fun e => by have := (hz _ e).2; omega) 2 (.int .i64 (fr + 10 + y))
        have hc13 := hc12.upd (upd_setCell _ w7.heap.size 2 (.int .i64 (fr + 10 + y))) (by omega)
        have U13 := U12.set (g := w7.heap.size) (j := 2) (by omega) (.int .i64 (fr + 10 + y))
        clear g1 g6 pN U12 e1 e2 e2f d1 hdr HB hc12 hc11 U11 k10 ky
        go_wp2_with fail
        generalize w12.setCell ⟨w7.heap.size, 2, none⟩ (.int .i64 (fr + 10 + y)) = w13 at *
        have l13 := h6.lt
        refine (l01Below_any g 3 _ (by omega) (by omega) hc13).mono ?_
        rintro e w14 ⟨z, rfl, z0, z1, hc14, hu14⟩
        replace h1 := h1.upd hu14 (.inr (by omega))
        replace h6 := h6.upd hu14 (.inr (by omega))
        replace own := OwnR.turn own hu14 (by omega)
        have U14 := U13.trans hu14
        have m14 := hu14.size
        clear hu14 U13
        have kz : IntKind.i64.wrap (1 + z) = 1 + z := IntWalk.i64_in _ (by omega)
        have f4 := h6.frozen 4
        have c4 := h6.cell 4 rfl
        replace h1 := h1.other (k := w7.heap.size) (j := 4) (.int .i64 (1 + z)) (by omega)
        replace h6 := h6.set 4 (.int .i64 (1 + z))
        replace own := owns_put own (g := w7.heap.size) (fun e => by have := (hz _ e).2; omega) 4 (.int .i64 (1 + z))
        have hcz := hc14.upd (upd_setCell _ w7.heap.size 4 (.int .i64 (1 + z))) (by omega)
        have Uz := U14.set (g := w7.heap.size) (j := 4) (by omega) (.int .i64 (1 + z))
        clear hc14 U14
        have b0 := h6.cell 0 rfl
        have b1 := h6.cell 1 rfl
        have b2 := h6.cell 2 rfl
        have b3 := h6.cell 3 rfl
        have b4 := h6.cell 4 rfl
        have b5 := h6.cell 5 rfl
        have b6 := h6.cell 6 rfl
        have f0 := h1.frozen 0
        have f1 := h1.frozen 1
        have f2 := h1.frozen 2
        have f3 := h1.frozen 3
        have f4_ := h1.frozen 4
        have f5 := h1.frozen 5
        have f6 := h1.frozen 6
        have c0 := h1.cell 0 rfl
        have c1 := h1.cell 1 rfl
        have c2 := h1.cell 2 rfl
        have c3 := h1.cell 3 rfl
        have c4_ := h1.cell 4 rfl
        have c5 := h1.cell 5 rfl
        have c6 := h1.cell 6 rfl
        have K7 := (((((((h1.set 0 (.int .i64 1)).set 1 (.int .i64 fr)).set 2 (.int .i64 (fr + 10 + y))).set 3 (.int .i64 3600)).set 4 (.int .i64 (1 + z))).set 5 (.int .i64 (1 + mo))).set 6 (.slice (some ⟨w2.heap.size + 1, 0, none⟩) 5 5))
        have y0 := K7.cell 0 rfl
        have y1 := K7.cell 1 rfl
        have y2 := K7.cell 2 rfl
        have y3 := K7.cell 3 rfl
        have y4 := K7.cell 4 rfl
        have y5 := K7.cell 5 rfl
        have y6 := K7.cell 6 rfl
        have pE := (OwnR.put (OwnR.put (OwnR.put (OwnR.put (OwnR.put (OwnR.put (OwnR.put own w.heap.size 0 (.int .i64 1) (by omega)) w.heap.size 1 (.int .i64 fr) (by omega)) w.heap.size 2 (.int .i64 (fr + 10 + y)) (by omega)) w.heap.size 3 (.int .i64 3600) (by omega)) w.heap.size 4 (.int .i64 (1 + z)) (by omega)) w.heap.size 5 (.int .i64 (1 + mo)) (by omega)) w.heap.size 6 (.slice (some ⟨w2.heap.size + 1, 0, none⟩) 5 5) (by omega))
        have pc := (((((((hcz.upd (upd_setCell _ w.heap.size 0 (.int .i64 1)) hg).upd (upd_setCell _ w.heap.size 1 (.int .i64 fr)) hg).upd (upd_setCell _ w.heap.size 2 (.int .i64 (fr + 10 + y))) hg).upd (upd_setCell _ w.heap.size 3 (.int .i64 3600)) hg).upd (upd_setCell _ w.heap.size 4 (.int .i64 (1 + z))) hg).upd (upd_setCell _ w.heap.size 5 (.int .i64 (1 + mo))) hg).upd (upd_setCell _ w.heap.size 6 (.slice (some ⟨w2.heap.size + 1, 0, none⟩) 5 5)) hg)
        have pU := (((((((Uz.set (j := 0) (Nat.le_refl _) (.int .i64 1)).set (j := 1) (Nat.le_refl _) (.int .i64 fr)).set (j := 2) (Nat.le_refl _) (.int .i64 (fr + 10 + y))).set (j := 3) (Nat.le_refl _) (.int .i64 3600)).set (j := 4) (Nat.le_refl _) (.int .i64 (1 + z))).set (j := 5) (Nat.le_refl _) (.int .i64 (1 + mo))).set (j := 6) (Nat.le_refl _) (.slice (some ⟨w2.heap.size + 1, 0, none⟩) 5 5))
        clear K7
        go_wp2
        exact bodyPost_ret (v := .agg #[.int .i64 1, .int .i64 fr, .int .i64 (fr + 10 + y), .int .i64 3600, .int .i64 (1 + z), .int .i64 (1 + mo), .slice (some ⟨w2.heap.size + 1, 0, none⟩) 5 5]) (by simp [results, Tryz.results103, go_sem, y0, y1, y2, y3, y4, y5, y6]) rfl ⟨_, _, _, _, _, _, [(2, 0, 0, 0, 0, 0), (1, 0, 0, 0, p, q), (5, 0, 1, 0, 0, 0), (2, 1, 0, 0, 0, 0), (5, 2, 3, 0, 0, 0)], some ⟨w2.heap.size + 1, 0, none⟩, _, rfl, by simp, OwnR.rebase pE (by omega), pc, pU⟩
  · go_wp2_with fail
    refine (pickInt_any g w4.heap.size [2, 3, 4] _ (by simp) (by simp) (by omega) (by simp) ?_ (hc4.same ((Same.refl _).alloc _))).mono ?_
    · intro j x hj
      match j, hj with
      | 0, hj => simp at hj; subst hj; simp
      | 1, hj => simp at hj; subst hj; simp
      | 2, hj => simp at hj; subst hj; simp
      | j + 3, hj => simp at hj
    rintro e w5 ⟨r, rfl, hr, hc5, hu5⟩
    clear hr
    replace h1 := (h1.alloc (.cells #[.int .i64 2, .int .i64 3, .int .i64 4] 3)).upd hu5 (.inr (by omega))
    replace own := OwnR.turn (OwnR.alloc own (.cells #[.int .i64 2, .int .i64 3, .int .i64 4] 3)) hu5 (by omega)
    have U5 := (U4.same ((Same.refl _).alloc (.cells #[.int .i64 2, .int .i64 3, .int .i64 4] 3))).trans hu5
    have n6 := hu5.size
    simp only [World.size_alloc] at n6
    clear hu5 hc4 U4
    go_wp2_with fail
    refine (pickInt_any g w5.heap.size [3, 8, 5] _ (by simp) (by simp) (by omega) (by simp) ?_ (hc5.same ((Same.refl _).alloc _))).mono ?_
    · intro j x hj
      match j, hj with
      | 0, hj => simp at hj; subst hj; simp
      | 1, hj => simp at hj; subst hj; simp
      | 2, hj => simp at hj; subst hj; simp
      | j + 3, hj => simp at hj
    rintro e w16 ⟨s, rfl, hr, hc16, hu16⟩
    clear hr
    replace h1 := (h1.alloc (.cells #[.int .i64 3, .int .i64 8, .int .i64 5] 3)).upd hu16 (.inr (by omega))
    replace own := OwnR.turn (OwnR.alloc own (.cells #[.int .i64 3, .int .i64 8, .int .i64 5] 3)) hu16 (by omega)
    have U16 := (U5.same ((Same.refl _).alloc (.cells #[.int .i64 3, .int .i64 8, .int .i64 5] 3))).trans hu16
    have n7 := hu16.size
    simp only [World.size_alloc] at n7
    clear hu16 hc5 U5
    have own2 := ownNode2 w16 r s (Nat.le_refl _)
    have al := (Same.refl w16).alloc (.cells #[.int .i64 2, .int .i64 r, .int .i64 0, .int .i64 0, .int .i64 0, .int .i64 0, .int .i64 s, .int .i64 4, .int .i64 5, .int .i64 0, .int .i64 0, .int .i64 0] 191)
    have hz16 := OwnR.zn own
    replace own := OwnR.same own al
    replace h1 := h1.same al
    replace hc16 := hc16.same al
    replace U16 := U16.same al
    go_wp2_with (at_builtin; refine wpList_of rfl fun _ hK => wp_allNode _ (.tmp 23) (.tmp 32) rfl (w2.heap.size + 1) _ [(2, 0, 0, 0, 0, 0), (1, 0, 0, 0, p, q), (5, 0, 1, 0, 0, 0), (2, 1, 0, 0, 0, 0), (5, 2, 3, 0, 0, 0)] rfl own (some ⟨w16.heap.size, 0, none⟩) 2 [(2, r, 0, 0, 0, 0), (s, 4, 5, 0, 0, 0)] rfl (OwnR.recs cNode_len own2) (by simp) (by simp) (by simp; omega) (fun v' w6 ho6 hup hfr => hK _ _ ?_); (obtain ⟨M, hM⟩ : ∃ M : List TNode, M = [(2, 0, 0, 0, 0, 0), (1, 0, 0, 0, p, q), (5, 0, 1, 0, 0, 0), (2, 1, 0, 0, 0, 0), (5, 2, 3, 0, 0, 0)] ++ [(2, r, 0, 0, 0, 0), (s, 4, 5, 0, 0, 0)] := ⟨_, rfl⟩); (rw [← hM] at ho6); (have hMl : M.length ≤ 10 := by rw [hM]; simp); (clear hM); (obtain ⟨B6, d6, rfl⟩ := OwnR.form ho6); (replace h1 := grown_box hup h1 (fun e => by have := (hz16 _ e).1; omega)); (have hc6 := hc16.grow hup (fun b e => by have := (hz16 _ e).1; omega)); (have U6 := U16.grow hup (fun b e => by have := (hz16 _ e).1; omega)); (have n66 := hup.size))
    simp only [World.size_alloc] at n66
    clear own hz16 own2 al hc16 U16 hup hfr
    have own := ho6
    clear ho6
    refine (l01Below_any g 4 _ (by omega) (by omega) hc6).mono ?_
    rintro e w7 ⟨mo, rfl, m0, m1, hc7, hu7⟩
    replace h1 := h1.upd hu7 (.inr (by omega))
    replace own := OwnR.turn own hu7 (by omega)
    have U7 := U6.trans hu7
    have n7 := hu7.size
    clear hu7 hc6 U6
    have km : IntKind.i64.wrap (1 + mo) = 1 + mo := IntWalk.i64_in _ (by omega)
    have hz := OwnR.zn own
    have h6 := BoxAt.new w7 114 [.int .i64 1, .int .i64 0, .int .i64 3600, .int .i64 3600, .int .i64 0, .int .i64 (1 + mo), .slice B6 M.length d6]
    have al := (Same.refl w7).alloc (.cells #[.int .i64 1, .int .i64 0, .int .i64 3600, .int .i64 3600, .int .i64 0, .int .i64 (1 + mo), .slice B6 M.length d6] 114)
    replace h1 := h1.same al
    replace own := OwnR.same own al
    replace hc7 := hc7.same al
    replace U7 := U7.same al
    have n8 := h6.lt
    clear al
    go_wp2_with fail
    generalize w7.alloc (.cells #[.int .i64 1, .int .i64 0, .int .i64 3600, .int .i64 3600, .int .i64 0, .int .i64 (1 + mo), .slice B6 M.length d6] 114) = w8 at *
    refine (l01Once_any g 2 _ (by omega) (by omega) hc7).mono ?_
    rintro e w9 ⟨b2, rfl, hc9, hu9⟩
    replace h1 := h1.upd hu9 (.inr (by omega))
    replace h6 := h6.upd hu9 (.inr (by omega))
    replace own := OwnR.turn own hu9 (by omega)
    have U9 := U7.trans hu9
    have m9 := hu9.size
    clear hu9 U7
    cases b2
    · have hcz := hc9
      have Uz := U9
      clear hz km kx
      have b0 := h6.cell 0 rfl
      have b1 := h6.cell 1 rfl
      have b2 := h6.cell 2 rfl
      have b3 := h6.cell 3 rfl
      have b4 := h6.cell 4 rfl
      have b5 := h6.cell 5 rfl
      have b6 := h6.cell 6 rfl
      have f0 := h1.frozen 0
      have f1 := h1.frozen 1
      have f2 := h1.frozen 2
      have f3 := h1.frozen 3
      have f4 := h1.frozen 4
      have f5 := h1.frozen 5
      have f6 := h1.frozen 6
      have c0 := h1.cell 0 rfl
      have c1 := h1.cell 1 rfl
      have c2 := h1.cell 2 rfl
      have c3 := h1.cell 3 rfl
      have c4 := h1.cell 4 rfl
      have c5 := h1.cell 5 rfl
      have c6 := h1.cell 6 rfl
      have K7 := (((((((h1.set 0 (.int .i64 1)).set 1 (.int .i64 0)).set 2 (.int .i64 3600)).set 3 (.int .i64 3600)).set 4 (.int .i64 0)).set 5 (.int .i64 (1 + mo))).set 6 (.slice B6 M.length d6))
      have y0 := K7.cell 0 rfl
      have y1 := K7.cell 1 rfl
      have y2 := K7.cell 2 rfl
      have y3 := K7.cell 3 rfl
      have y4 := K7.cell 4 rfl
      have y5 := K7.cell 5 rfl
      have y6 := K7.cell 6 rfl
      have pE := (OwnR.put (OwnR.put (OwnR.put (OwnR.put (OwnR.put (OwnR.put (OwnR.put own w.heap.size 0 (.int .i64 1) (by omega)) w.heap.size 1 (.int .i64 0) (by omega)) w.heap.size 2 (.int .i64 3600) (by omega)) w.heap.size 3 (.int .i64 3600) (by omega)) w.heap.size 4 (.int .i64 0) (by omega)) w.heap.size 5 (.int .i64 (1 + mo)) (by omega)) w.heap.size 6 (.slice B6 M.length d6) (by omega))
      have pc := (((((((hcz.upd (upd_setCell _ w.heap.size 0 (.int .i64 1)) hg).upd (upd_setCell _ w.heap.size 1 (.int .i64 0)) hg).upd (upd_setCell _ w.heap.size 2 (.int .i64 3600)) hg).upd (upd_setCell _ w.heap.size 3 (.int .i64 3600)) hg).upd (upd_setCell _ w.heap.size 4 (.int .i64 0)) hg).upd (upd_setCell _ w.heap.size 5 (.int .i64 (1 + mo))) hg).upd (upd_setCell _ w.heap.size 6 (.slice B6 M.length d6)) hg)
      have pU := (((((((Uz.set (j := 0) (Nat.le_refl _) (.int .i64 1)).set (j := 1) (Nat.le_refl _) (.int .i64 0)).set (j := 2) (Nat.le_refl _) (.int .i64 3600)).set (j := 3) (Nat.le_refl _) (.int .i64 3600)).set (j := 4) (Nat.le_refl _) (.int .i64 0)).set (j := 5) (Nat.le_refl _) (.int .i64 (1 + mo))).set (j := 6) (Nat.le_refl _) (.slice B6 M.length d6))
      clear K7
      go_wp2
      exact bodyPost_ret (v := .agg #[.int .i64 1, .int .i64 0, .int .i64 3600, .int .i64 3600, .int .i64 0, .int .i64 (1 + mo), .slice B6 M.length d6]) (by simp [results, Tryz.results103, go_sem, y0, y1, y2, y3, y4, y5, y6]) rfl ⟨_, _, _, _, _, _, M, B6, _, rfl, hMl, OwnR.rebase pE (by omega), pc, pU⟩
    · go_wp2_with fail
      refine (l01Below_any g 60 _ (by omega) (by omega) hc9).mono ?_
      rintro e w10 ⟨fr, rfl, r0, r1, hc10, hu10⟩
      replace h1 := h1.upd hu10 (.inr (by omega))
      replace h6 := h6.upd hu10 (.inr (by omega))
      replace own := OwnR.turn own hu10 (by omega)
      have U10 := U9.trans hu10
      have m10 := hu10.size
      clear hu10 U9
      clear hc9
      have f1 := h6.frozen 1
      have c1 := h6.cell 1 rfl
      replace h1 := h1.other (k := w7.heap.size) (j := 1) (.int .i64 fr) (by omega)
      replace h6 := h6.set 1 (.int .i64 fr)
      replace own := owns_put own (g := w7.heap.size) (fun e => by have := (hz _ e).2; omega) 1 (.int .i64 fr)
      have hc11 := hc10.upd (upd_setCell _ w7.heap.size 1 (.int .i64 fr)) (by omega)
      have U11 := U10.set (g := w7.heap.size) (j := 1) (by omega) (.int .i64 fr)
      clear hc10 U10
      have d1 := h6.cell 1 rfl
      have HB := Lib.hid (fun (u : World) (h : Cur u g) => l01Below_any g 60 u (by omega) (by omega) h)
      have hdr := (Same.refl (w10.setCell ⟨w7.heap.size, 1, none⟩ (.int .i64 fr))).drew
      have l8 := h6.lt
      have k10 : IntKind.i64.wrap (fr + 10) = fr + 10 := IntWalk.i64_in _ (by omega)
      go_wp2
      generalize w10.setCell ⟨w7.heap.size, 1, none⟩ (.int .i64 fr) = w11 at *
      clear f1 c1
      go_region_law
        (first
          | (refine step_of (by rfl) ?_; go_simp; go_at_call 46; (have h7 := HB.out _ (hc11.same hdr)); (with_reducible refine Calls.mono h7 ?_); clear h7; rintro e w12 ⟨y, rfl, y0, y1, hc12, hu12⟩; dsimp only; (have g1 := (h1.same hdr).upd hu12 (.inr (by omega))); (have g6 := (h6.same hdr).upd hu12 (.inr (by omega))); (have pN := OwnR.turn (OwnR.same own hdr) hu12 (by omega)); (have U12 := (U11.same hdr).trans hu12); (have e1 := g6.cell 1 rfl); (have e2 := g6.cell 2 rfl); (have e2f := g6.frozen 2); (have ky : IntKind.i64.wrap (fr + 10 + y) = fr + 10 + y := IntWalk.i64_in _ (by omega)); (have l12 := g6.lt)))
      all_goals
        have h1 := g1.other (k := w7.heap.size) (j := 2) (.int .i64 (fr + 10 + y)) (by omega)
        have h6 := g6.set 2 (.int .i64 (fr + 10 + y))
        have own := owns_put pN (g := w7.heap.size) (fun e => by have := (hz _ e).2; omega) 2 (.int .i64 (fr + 10 + y))
        have hc13 := hc12.upd (upd_setCell _ w7.heap.size 2 (.int .i64 (fr + 10 + y))) (by omega)
        have U13 := U12.set (g := w7.heap.size) (j := 2) (by omega) (.int .i64 (fr + 10 + y))
        clear g1 g6 pN U12 e1 e2 e2f d1 hdr HB hc12 hc11 U11 k10 ky
        go_wp2_with fail
        generalize w12.setCell ⟨w7.heap.size, 2, none⟩ (.int .i64 (fr + 10 + y)) = w13 at *
        have l13 := h6.lt
        refine (l01Below_any g 3 _ (by omega) (by omega) hc13).mono ?_
        rintro e w14 ⟨z, rfl, z0, z1, hc14, hu14⟩
        replace h1 := h1.upd hu14 (.inr (by omega))
        replace h6 := h6.upd hu14 (.inr (by omega))
        replace own := OwnR.turn own hu14 (by omega)
        have U14 := U13.trans hu14
        have m14 := hu14.size
        clear hu14 U13
        have kz : IntKind.i64.wrap (1 + z) = 1 + z := IntWalk.i64_in _ (by omega)
        have f4 := h6.frozen 4
        have c4 := h6.cell 4 rfl
        replace h1 := h1.other (k := w7.heap.size) (j := 4) (.int .i64 (1 + z)) (by omega)
        replace h6 := h6.set 4 (.int .i64 (1 + z))
        replace own := owns_put own (g := w7.heap.size) (fun e => by have := (hz _ e).2; omega) 4 (.int .i64 (1 + z))
        have hcz := hc14.upd (upd_setCell _ w7.heap.size 4 (.int .i64 (1 + z))) (by omega)
        have Uz := U14.set (g := w7.heap.size) (j := 4) (by omega) (.int .i64 (1 + z))
        clear hc14 U14
        have b0 := h6.cell 0 rfl
        have b1 := h6.cell 1 rfl
        have b2 := h6.cell 2 rfl
        have b3 := h6.cell 3 rfl
        have b4 := h6.cell 4 rfl
        have b5 := h6.cell 5 rfl
        have b6 := h6.cell 6 rfl
        have f0 := h1.frozen 0
        have f1 := h1.frozen 1
        have f2 := h1.frozen 2
        have f3 := h1.frozen 3
        have f4_ := h1.frozen 4
        have f5 := h1.frozen 5
        have f6 := h1.frozen 6
        have c0 := h1.cell 0 rfl
        have c1 := h1.cell 1 rfl
        have c2 := h1.cell 2 rfl
        have c3 := h1.cell 3 rfl
        have c4_ := h1.cell 4 rfl
        have c5 := h1.cell 5 rfl
        have c6 := h1.cell 6 rfl
        have K7 := (((((((h1.set 0 (.int .i64 1)).set 1 (.int .i64 fr)).set 2 (.int .i64 (fr + 10 + y))).set 3 (.int .i64 3600)).set 4 (.int .i64 (1 + z))).set 5 (.int .i64 (1 + mo))).set 6 (.slice B6 M.length d6))
        have y0 := K7.cell 0 rfl
        have y1 := K7.cell 1 rfl
        have y2 := K7.cell 2 rfl
        have y3 := K7.cell 3 rfl
        have y4 := K7.cell 4 rfl
        have y5 := K7.cell 5 rfl
        have y6 := K7.cell 6 rfl
        have pE := (OwnR.put (OwnR.put (OwnR.put (OwnR.put (OwnR.put (OwnR.put (OwnR.put own w.heap.size 0 (.int .i64 1) (by omega)) w.heap.size 1 (.int .i64 fr) (by omega)) w.heap.size 2 (.int .i64 (fr + 10 + y)) (by omega)) w.heap.size 3 (.int .i64 3600) (by omega)) w.heap.size 4 (.int .i64 (1 + z)) (by omega)) w.heap.size 5 (.int .i64 (1 + mo)) (by omega)) w.heap.size 6 (.slice B6 M.length d6) (by omega))
        have pc := (((((((hcz.upd (upd_setCell _ w.heap.size 0 (.int .i64 1)) hg).upd (upd_setCell _ w.heap.size 1 (.int .i64 fr)) hg).upd (upd_setCell _ w.heap.size 2 (.int .i64 (fr + 10 + y))) hg).upd (upd_setCell _ w.heap.size 3 (.int .i64 3600)) hg).upd (upd_setCell _ w.heap.size 4 (.int .i64 (1 + z))) hg).upd (upd_setCell _ w.heap.size 5 (.int .i64 (1 + mo))) hg).upd (upd_setCell _ w.heap.size 6 (.slice B6 M.length d6)) hg)
        have pU := (((((((Uz.set (j := 0) (Nat.le_refl _) (.int .i64 1)).set (j := 1) (Nat.le_refl _) (.int .i64 fr)).set (j := 2) (Nat.le_refl _) (.int .i64 (fr + 10 + y))).set (j := 3) (Nat.le_refl _) (.int .i64 3600)).set (j := 4) (Nat.le_refl _) (.int .i64 (1 + z))).set (j := 5) (Nat.le_refl _) (.int .i64 (1 + mo))).set (j := 6) (Nat.le_refl _) (.slice B6 M.length d6))
        clear K7
        go_wp2
        exact bodyPost_ret (v := .agg #[.int .i64 1, .int .i64 fr, .int .i64 (fr + 10 + y), .int .i64 3600, .int .i64 (1 + z), .int .i64 (1 + mo), .slice B6 M.length d6]) (by simp [results, Tryz.results103, go_sem, y0, y1, y2, y3, y4, y5, y6]) rfl ⟨_, _, _, _, _, _, M, B6, _, rfl, hMl, OwnR.rebase pE (by omega), pc, pU⟩
end Go.Proofs.YtjfmknhnplefnaaGreat
end

