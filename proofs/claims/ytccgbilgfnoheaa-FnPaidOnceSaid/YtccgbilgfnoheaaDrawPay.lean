/-
  A run and a bank drawn from bytes.
-/
import Derived.Test.YtccgbilgfnoheaaDraw
import Derived.Test.YtccgbilgfnoheaaPlainPay
import Derived.Test.YtccgbilgfnoheaaFinish
import Derived.Test.YtccgbilgfnoheaaSendS
import Derived.Test.YtccgbilgfnoheaaRunNewS
import Derived.Test.YtccgbilgfnoheaaConfirmS
import Derived.Deep.RegionLaw
namespace Go.Proofs.Ytccgbilgfnoheaa
open Go.RowKit
set_option linter.unusedVariables false
set_option linter.unnecessarySimpa false

/-! What a write into blocks that are new does not touch. -/
theorem Upd.grow {lo hi : Nat} {a b c : World} {row : Option Nat} (h : Upd lo hi a b) (k : b.grownBy c row) (hr : ∀ g, row = some g → a.heap.size ≤ g) : Upd lo hi a c :=
  ⟨k.os.trans h.os, k.tape.trans h.tape, k.output.trans h.output, Nat.le_trans h.size k.size, fun i hi ho => (k.block i (Nat.lt_of_lt_of_le hi h.size) (fun e => by have := hr i e.symm; omega)).trans (h.block i hi ho)⟩
theorem Upd.set {lo hi : Nat} {a b : World} (h : Upd lo hi a b) {g j : Nat} (hg : a.heap.size ≤ g) (u : Value) : Upd lo hi a (b.setCell ⟨g, j, none⟩ u) :=
  h.trans' (upd_setCell b g j u) hg
theorem Upd.same {lo hi : Nat} {a b c : World} (h : Upd lo hi a b) (k : Same b c) : Upd lo hi a c := h.trans (k.upd lo hi)
/-- A world without memory: what is the same to it has only its outside alike. -/
def bareW (w : World) : World := { w with heap := #[] }
theorem bareW.same {w w' : World} {lo hi : Nat} (h : Upd lo hi w w') : Same (bareW w) w' := ⟨h.os, h.tape, h.output, Nat.zero_le _, fun k hk => absurd hk (Nat.not_lt_zero k)⟩
theorem SendSt.upd {w0 w w' : World} {base gr gb : Nat} {m : Int} {L : List TItem} {K C : List Int} {ρ : RBRes} (h : SendSt w0 w base gr gb m L K C ρ) {lo hi : Nat} (hu : Upd lo hi w w') (h0 : w0.heap.size ≤ lo) (hb : hi ≤ base) (h1 : hi ≤ gr) (h2 : hi ≤ gb) :
    SendSt w0 w' base gr gb m L K C ρ :=
  ⟨h.run.upd hu (.inr h1), h.bank.upd hu (.inr h2), ⟨h.own.it.upd hu h.own.it.zn (.inr hb), h.own.ks.upd hu h.own.ks.zn (.inr hb), h.own.cs.upd hu h.own.cs.zn (.inr hb), h.own.s1, h.own.s2, h.own.s3⟩, h.fr, h.fb, h.ne, h.same.upds hu h0, h.l1, h.l2, h.lb, Nat.le_trans h.bs hu.size⟩
theorem accKC_ok {K C : List Int} {k c : Int} (h : bankOk K C = true) : bankOk (accK K C k c) (accC K C k c) = true := by
  cases ho : accOk K C k c
  · rw [(acc_no ho).1, (acc_no ho).2]; exact h
  · rw [(acc_yes ho).1, (acc_yes ho).2]
    unfold accOk at ho
    simp only [Bool.and_eq_true] at ho
    exact ho.2.2
/-- Accept leaves a valid bank valid, and adds one key at most. -/
theorem sAccept_some (A : Option Addr) (c : Nat) (K : List Int) (B : Option Addr) (d : Nat) (C : List Int) (key cents : Int) (w : World) (base : Nat) (hb : bankOk K C = true) (oK : OwnI w base (.slice A K.length c) K) (oC : OwnI w base (.slice B C.length d) C) :
    Calls Try.prog 41 #[.agg #[.slice A K.length c, .slice B C.length d], .int .i64 key, .int .i64 cents] w fun e w' => ∃ K9 C9 ok, bankOk K9 C9 = true ∧ K9.length ≤ K.length + 1 ∧ RetBankX w K9 C9 (.bool ok) e w' := by
  have h := bankOk_iff.1 hb
  exact (sAccept_any A c K B d C key cents w (by omega) (OwnI.nil_cap oK) (OwnI.cap oK) (OwnI.ints oK) (by omega) (OwnI.nil_cap oC) (OwnI.ints oC)).mono fun e w' hr => ⟨_, _, _, accKC_ok hb, accK_len _ _ _ _, hr⟩
theorem new_valid (month : Int) (ms cs : List Int) : runOk (newM month ms cs) (newL month ms cs) = true := by
  cases h : newOk month ms cs
  · rw [(new_no h).1, (new_no h).2]; rfl
  · rw [(new_yes h).1, (new_yes h).2]
    simp only [newOk, Bool.and_eq_true] at h
    exact h.2

theorem l01Once_any (g : Nat) (n : Int) (w : World) (hn : 0 < n) (hm : n ≤ 1000000000) (hc : Cur w g) : Calls Try.prog 79 #[.pointer (some ⟨g, 0, none⟩), .int .i64 n] w fun e w' => ∃ b : Bool, e = .returned (.bool b) ∧ Cur w' g ∧ Upd g (g + 1) w w' := by
  go_enter Try.func79, Try.ntmps79
  go_wp2_with fail
  refine (l01Below_any g n _ hn hm hc).mono ?_
  rintro e w1 ⟨x, rfl, h0, h1, hc1, hu1⟩
  go_wp2
  go_ret
  exact ⟨_, rfl, hc1, hu1⟩

/-- A valid run and a valid bank, drawn. -/
structure PayRun (w w' : World) (base : Nat) (m : Int) (L : List TItem) (K C : List Int) (ρ : RBRes) : Prop where
  okR : runOk m L = true
  okB : bankOk K C = true
  lenL : L.length ≤ 7
  lenK : K.length ≤ 8
  own : RBOwn w' base L K C ρ
def RetCase (g : Nat) (w : World) (e : Ending) (w' : World) : Prop :=
  ∃ (m : Int) (L : List TItem) (K C : List Int) (ρ : RBRes), e = .returned (.tuple #[ρ.run m L, ρ.bank K C]) ∧ PayRun w w' w.heap.size m L K C ρ ∧ Cur w' g ∧ Upd g (g + 1) w w'

/-- The bank is laid anew. -/
theorem SendSt.newBank {w0 w w' : World} {base gr gb : Nat} {m : Int} {L : List TItem} {K C K' C' : List Int} {A : Option Addr} {c : Nat} {B : Option Addr} {d : Nat} {D : Option Addr} {f : Nat} {B' : Option Addr} {d' : Nat} {D' : Option Addr} {f' : Nat}
    (h : SendSt w0 w base gr gb m L K C ⟨A, c, B, d, D, f⟩) (hs : Same w w') (hk : OwnI w' w.heap.size (.slice B' K'.length d') K') (hc : OwnI w' w.heap.size (.slice D' C'.length f') C') (s3 : Sep (.slice B' K'.length d') (.slice D' C'.length f')) :
    SendSt w0 ((w'.setCell ⟨gb, 0, none⟩ (.slice B' K'.length d')).setCell ⟨gb, 1, none⟩ (.slice D' C'.length f')) base gr gb m L K' C' ⟨A, c, B', d', D', f'⟩ := by
  have lr := h.run.lt
  have lb := h.bank.lt
  have far : ∀ {v : Value} {e : TypeId} {s n : Nat} {xs : List Value}, w'.ownsRow w.heap.size e s v n xs → v.ownBlock ≠ some gr ∧ v.ownBlock ≠ some gb := fun ho => ⟨fun e => by have := (owns_new ho _ e).1; omega, fun e => by have := (owns_new ho _ e).1; omega⟩
  obtain ⟨b1, b2⟩ := far hk
  obtain ⟨c1, c2⟩ := far hc
  have hb := h.bs
  have sz := hs.size
  refine ⟨((h.run.same hs).other _ h.ne).other _ h.ne, ((h.bank.same hs).set 0 _).set 1 _, ⟨owns_set (owns_set (h.own.it.same hs) h.fb.1) h.fb.1, owns_set (owns_set (hk.base hb) b2) b2, owns_set (owns_set (hc.base hb) c2) c2, fun g h1 h2 => ?_, fun g h1 h2 => ?_, s3⟩,
    ⟨h.fr.1, b1, c1⟩, ⟨h.fb.1, b2, c2⟩, h.ne, ((h.same.trans hs).setCell h.l2 _).setCell h.l2 _, h.l1, h.l2, h.lb, by simp; omega⟩
  · have := (owns_new hk g h2).1; have := (owns_new h.own.it g h1).2; omega
  · have := (owns_new hc g h2).1; have := (owns_new h.own.it g h1).2; omega

/-- The state of a draw. -/
structure CaseSt (w wr : World) (g gr gb : Nat) (m : Int) (L : List TItem) (K C : List Int) (ρ : RBRes) : Prop where
  st : SendSt (bareW w) wr (w.heap.size + 1 + 1) gr gb m L K C ρ
  okR : runOk m L = true
  okB : bankOk K C = true
  lenL : L.length ≤ 7
  cur : Cur wr g
  upd : Upd g (g + 1) w wr
  r1 : BoxAt wr w.heap.size 26 [.int .i64 0, .slice none 0 0]
  r2 : BoxAt wr (w.heap.size + 1) 29 [.slice none 0 0, .slice none 0 0]
  gl : g < w.heap.size
  g1 : w.heap.size + 1 + 1 ≤ gr
  g2 : w.heap.size + 1 + 1 ≤ gb
section
variable {w wr wr' : World} {g gr gb : Nat} {m : Int} {L : List TItem} {K C : List Int} {ρ : RBRes}
theorem CaseSt.step {m' : Int} {L' : List TItem} {K' C' : List Int} {ρ' : RBRes} (h : CaseSt w wr g gr gb m L K C ρ) {lo hi : Nat} (hu : Upd lo hi wr wr') (hl : w.heap.size + 1 + 1 ≤ lo) (st : SendSt (bareW w) wr' (w.heap.size + 1 + 1) gr gb m' L' K' C' ρ') (hr : runOk m' L' = true) (hb : bankOk K' C' = true) (hL : L'.length ≤ 7) :
    CaseSt w wr' g gr gb m' L' K' C' ρ' :=
  ⟨st, hr, hb, hL, h.cur.upd hu (by have := h.gl; omega), h.upd.trans' hu (by omega), h.r1.upd hu (.inl (by omega)), h.r2.upd hu (.inl (by omega)), h.gl, h.g1, h.g2⟩
theorem CaseSt.world (h : CaseSt w wr g gr gb m L K C ρ) (hs : Same wr wr') : CaseSt w wr' g gr gb m L K C ρ := h.step (hs.upd (w.heap.size + 1 + 1) 0) (Nat.le_refl _) (h.st.world hs) h.okR h.okB h.lenL
theorem CaseSt.draw (h : CaseSt w wr g gr gb m L K C ρ) (hu : Upd g (g + 1) wr wr') (hc : Cur wr' g) : CaseSt w wr' g gr gb m L K C ρ := by
  have := h.gl; have := h.g1; have := h.g2
  exact ⟨h.st.upd hu (Nat.zero_le _) (by omega) (by omega) (by omega), h.okR, h.okB, h.lenL, hc, h.upd.trans hu, h.r1.upd hu (.inr (by omega)), h.r2.upd hu (.inr (by omega)), h.gl, h.g1, h.g2⟩
theorem CaseSt.len (h : CaseSt w wr g gr gb m L K C ρ) : L.length ≤ 7 ∧ K.length ≤ 2000 ∧ C.length ≤ 2000 := by
  have b := bankOk_iff.1 h.okB
  have := h.lenL
  omega
/-- Writes into the two boxes, behind what is the same. -/
theorem upd_two {a b : World} (hs : Same a b) {lo gr gb : Nat} (h1 : lo ≤ gr) (h2 : lo ≤ gb) (h3 : gr < a.heap.size) (h4 : gb < a.heap.size) {u0 u1 v0 v1 : Value} :
    Upd lo a.heap.size a ((((b.setCell ⟨gr, 0, none⟩ u0).setCell ⟨gr, 1, none⟩ u1).setCell ⟨gb, 0, none⟩ v0).setCell ⟨gb, 1, none⟩ v1) :=
  ((((hs.upd _ _).trans ((upd_setCell _ _ _ _).mono h1 (by omega))).trans ((upd_setCell _ _ _ _).mono h1 (by omega))).trans ((upd_setCell _ _ _ _).mono h2 (by omega))).trans ((upd_setCell _ _ _ _).mono h2 (by omega))
theorem upd_one {a b : World} (hs : Same a b) {lo gr : Nat} (h1 : lo ≤ gr) (h3 : gr < a.heap.size) {u0 u1 : Value} : Upd lo a.heap.size a ((b.setCell ⟨gr, 0, none⟩ u0).setCell ⟨gr, 1, none⟩ u1) :=
  ((hs.upd _ _).trans ((upd_setCell _ _ _ _).mono h1 (by omega))).trans ((upd_setCell _ _ _ _).mono h1 (by omega))
end

set_option maxRecDepth 100000 in
set_option maxHeartbeats 4000000 in
theorem l25Case_any (g : Nat) (w : World) (hc : Cur w g) : Calls Try.prog 50 #[.pointer (some ⟨g, 0, none⟩)] w (RetCase g w) := by
  have hg := hc.lt
  go_enter Try.func50, Try.ntmps50
  go_wp2
  have h1 : BoxAt ((((w.alloc (.cells #[.int .i64 0, .slice none 0 0] 26)).alloc (.cells #[.slice none 0 0, .slice none 0 0] 29)).alloc (.cells #[] 3)).alloc (.cells #[] 3)) (w.heap.size) 26 [.int .i64 0, .slice none 0 0] := by simpa using (BoxAt.alloc (BoxAt.alloc (BoxAt.alloc (BoxAt.new w 26 [.int .i64 0, .slice none 0 0]) (.cells #[.slice none 0 0, .slice none 0 0] 29)) (.cells #[] 3)) (.cells #[] 3))
  have h2 : BoxAt ((((w.alloc (.cells #[.int .i64 0, .slice none 0 0] 26)).alloc (.cells #[.slice none 0 0, .slice none 0 0] 29)).alloc (.cells #[] 3)).alloc (.cells #[] 3)) (w.heap.size + 1) 29 [.slice none 0 0, .slice none 0 0] := by simpa using (BoxAt.alloc (BoxAt.alloc (BoxAt.new (w.alloc (.cells #[.int .i64 0, .slice none 0 0] 26)) 29 [.slice none 0 0, .slice none 0 0]) (.cells #[] 3)) (.cells #[] 3))
  have h3 : BoxAt ((((w.alloc (.cells #[.int .i64 0, .slice none 0 0] 26)).alloc (.cells #[.slice none 0 0, .slice none 0 0] 29)).alloc (.cells #[] 3)).alloc (.cells #[] 3)) (w.heap.size + 1 + 1) 3 [] := by simpa using (BoxAt.alloc (BoxAt.new ((w.alloc (.cells #[.int .i64 0, .slice none 0 0] 26)).alloc (.cells #[.slice none 0 0, .slice none 0 0] 29)) 3 []) (.cells #[] 3))
  have h4 : BoxAt ((((w.alloc (.cells #[.int .i64 0, .slice none 0 0] 26)).alloc (.cells #[.slice none 0 0, .slice none 0 0] 29)).alloc (.cells #[] 3)).alloc (.cells #[] 3)) (w.heap.size + 1 + 1 + 1) 3 [] := by simpa using (BoxAt.new (((w.alloc (.cells #[.int .i64 0, .slice none 0 0] 26)).alloc (.cells #[.slice none 0 0, .slice none 0 0] 29)).alloc (.cells #[] 3)) 3 [])
  have hs0 := (Same.alloc (Same.alloc (Same.alloc (Same.alloc (Same.refl w) (.cells #[.int .i64 0, .slice none 0 0] 26)) (.cells #[.slice none 0 0, .slice none 0 0] 29)) (.cells #[] 3)) (.cells #[] 3))
  generalize ((((w.alloc (.cells #[.int .i64 0, .slice none 0 0] 26)).alloc (.cells #[.slice none 0 0, .slice none 0 0] 29)).alloc (.cells #[] 3)).alloc (.cells #[] 3)) = w0 at *
  have n0 := hs0.size
  have nn := h4.lt
  have o4 : OwnI w0 (w.heap.size + 1 + 1) (.slice (some ⟨w.heap.size + 1 + 1, 0, none⟩) 0 0) [] := own_empty h3 (by omega)
  have o5 : OwnI w0 (w.heap.size + 1 + 1) (.slice (some ⟨w.heap.size + 1 + 1 + 1, 0, none⟩) 0 0) [] := own_empty h4 (by omega)
  have sp45 : Sep (.slice (some ⟨w.heap.size + 1 + 1, 0, none⟩) 0 0) (.slice (some ⟨w.heap.size + 1 + 1 + 1, 0, none⟩) 0 0) := fun b e1 e2 => by simp [Value.ownBlock] at e1 e2; omega
  clear h3 h4
  go_loopw [4, 5, 6] (fun t4 t5 t6 wr => ∃ (k : Nat) (M N : List Int), k ≤ 7 ∧ t6 = .int .i64 k ∧ M.length ≤ k ∧ N.length ≤ k ∧ OwnI wr (w.heap.size + 1 + 1) t4 M ∧ OwnI wr (w.heap.size + 1 + 1) t5 N ∧ Sep t4 t5 ∧ Cur wr g ∧ Upd g (g + 1) w wr ∧
      BoxAt wr w.heap.size 26 [.int .i64 0, .slice none 0 0] ∧ BoxAt wr (w.heap.size + 1) 29 [.slice none 0 0, .slice none 0 0] ∧ w.heap.size + 1 + 1 ≤ wr.heap.size) (fun _ _ t6 _ => 8 - (intOf t6).toNat)
  case atStart => exact ⟨0, [], [], by omega, rfl, by simp, by simp, o4, o5, sp45, hc.same hs0, hs0.upd _ _, h1, h2, by omega⟩
  case round =>
    obtain ⟨k, M, N, hk, rfl, hM, hN, ho4, ho5, sp, hcr, hu, hr1, hr2, nw⟩ := hrel
    clear o4 o5 sp45 h1 h2
    obtain ⟨A4, c4, rfl⟩ := ho4.form
    obtain ⟨A5, c5, rfl⟩ := ho5.form
    go_wp2_with fail
    refine (l01Below_any g 8 _ (by omega) (by omega) hcr).mono ?_
    rintro e w1 ⟨x, rfl, x0, x1, hc1, hu1⟩
    replace ho4 := ho4.upd hu1 ho4.zn (.inr (by omega))
    replace ho5 := ho5.upd hu1 ho5.zn (.inr (by omega))
    replace hr1 := hr1.upd hu1 (.inr (by omega))
    replace hr2 := hr2.upd hu1 (.inr (by omega))
    have n1 := hu1.size
    replace hu := hu.trans hu1
    clear hcr hu1
    by_cases hlt : (k : Int) < x
    · go_wp2_with fail
      refine (l01Below_any g 3 _ (by omega) (by omega) hc1).mono ?_
      rintro e w2 ⟨y, rfl, y0, y1, hc2, hu2⟩
      replace ho4 := ho4.upd hu2 ho4.zn (.inr (by omega))
      replace ho5 := ho5.upd hu2 ho5.zn (.inr (by omega))
      replace hr1 := hr1.upd hu2 (.inr (by omega))
      replace hr2 := hr2.upd hu2 (.inr (by omega))
      have n2 := hu2.size
      replace hu := hu.trans hu2
      clear hc1 hu2
      go_upto_region 7 with (at_builtin; refine wpList_of rfl fun _ hK => wp_oneI _ (.tmp 20) (.tmp 27) rfl (w.heap.size + 1 + 1) (.slice A4 M.length c4) M rfl (ho4.alloc _) w2.heap.size 1 _ rfl (by simp; rfl) (by omega) (by simp) (by simp; omega) (fun v' w3 ho6 hup hfr => hK _ _ ?_); clear hK)
      obtain ⟨M2, hM2⟩ : ∃ M2, M2 = M ++ [1 + (k : Int) * 3 + y] := ⟨_, rfl⟩
      have hlM2 : M2.length ≤ k + 1 := by rw [hM2]; simp; omega
      rw [← hM2] at ho6
      obtain ⟨A6, c6, rfl⟩ := ho6.form
      have al := (Same.refl w2).alloc (.cells #[.int .i64 (1 + (k : Int) * 3 + y)] 3)
      have own4 := fun b hb => (owns_new ho4 b hb).1
      have ho7 := grown_owns hup (ho5.same al) sp
      have sp6 := Sep.from_ sp hfr (ho5.same al)
      have bx : ∀ b, b < w.heap.size + 1 + 1 → (Value.slice A4 M.length c4).ownBlock ≠ some b := fun b hb e => by have := own4 b e; omega
      replace hr1 := grown_box hup (hr1.same al) (bx _ (by omega))
      replace hr2 := grown_box hup (hr2.same al) (bx _ (by omega))
      have hu3 := (hu.same al).grow hup (fun b hb => by have := own4 b hb; omega)
      have hc3 : Cur w3 g := (hc2.same al).upd (lo := g + 1) (hi := w3.heap.size) ⟨hup.os, hup.tape, hup.output, hup.size, fun i hi ho => hup.block i hi (fun e => by have := own4 i e.symm; have := (owns_new ho4 i e.symm).2; have := hup.size; simp at this; omega)⟩ (by omega)
      have n3 := hup.size
      rw [World.size_alloc] at n3
      clear hM2 hup hfr ho4 ho5 sp al own4 bx hu hc2
      go_wp2_with fail
      refine (l01Below_any g 500 _ (by omega) (by omega) hc3).mono ?_
      rintro e w4 ⟨z, rfl, z0, z1, hc4, hu4⟩
      replace ho6 := ho6.upd hu4 ho6.zn (.inr (by omega))
      replace ho7 := OwnI.upd ho7 hu4 (OwnI.zn ho7) (.inr (by omega))
      replace hr1 := hr1.upd hu4 (.inr (by omega))
      replace hr2 := hr2.upd hu4 (.inr (by omega))
      have n4 := hu4.size
      replace hu3 := hu3.trans hu4
      clear hc3 hu4
      go_upto_region 5 with (at_builtin; refine wpList_of rfl fun _ hK => wp_oneI _ (.tmp 29) (.tmp 33) rfl (w.heap.size + 1 + 1) (.slice A5 N.length c5) N rfl (OwnI.alloc ho7 _) w4.heap.size 1 _ rfl (by simp; rfl) (by omega) (by simp) (by simp; omega) (fun v' w5 ho8 hup hfr => hK _ _ ?_); clear hK)
      obtain ⟨N2, hN2⟩ : ∃ N2, N2 = N ++ [z * 100] := ⟨_, rfl⟩
      have hlN2 : N2.length ≤ k + 1 := by rw [hN2]; simp; omega
      rw [← hN2] at ho8
      obtain ⟨A8, c8, rfl⟩ := ho8.form
      have al := (Same.refl w4).alloc (.cells #[.int .i64 (z * 100)] 3)
      have own4 := fun b hb => (owns_new ho7 b hb).1
      have ho9 := grown_owns hup (ho6.same al) sp6.symm
      have sp8 := (Sep.from_ sp6.symm hfr (ho6.same al)).symm
      have bx : ∀ b, b < w.heap.size + 1 + 1 → (Value.slice A5 N.length c5).ownBlock ≠ some b := fun b hb e => by have := own4 b e; omega
      replace hr1 := grown_box hup (hr1.same al) (bx _ (by omega))
      replace hr2 := grown_box hup (hr2.same al) (bx _ (by omega))
      have hu5 := (hu3.same al).grow hup (fun b hb => by have := own4 b hb; omega)
      have hc5 : Cur w5 g := (hc4.same al).upd (lo := g + 1) (hi := w5.heap.size) ⟨hup.os, hup.tape, hup.output, hup.size, fun i hi ho => hup.block i hi (fun e => by have := own4 i e.symm; have := (owns_new ho7 i e.symm).2; have := hup.size; simp at this; omega)⟩ (by omega)
      have n5 := hup.size
      rw [World.size_alloc] at n5
      clear hN2 hup hfr ho6 ho7 sp6 al own4 bx hu3 hc4
      have hk6 : k + 1 ≤ 7 := by omega
      go_wp2
      go_roundw
      case rel => exact ⟨k + 1, M2, N2, hk6, by go_num, hlM2, hlN2, ho9, ho8, sp8, hc5, hu5, hr1, hr2, by omega⟩
      case measure => simp [intOf]; omega
    · clear hs0
      go_wp2_with fail
      refine (l01Below_any g 60 _ (by omega) (by omega) hc1).mono ?_
      rintro e w2 ⟨m, rfl, m0, m1, hc2, hu2⟩
      replace ho4 := ho4.upd hu2 ho4.zn (.inr (by omega))
      replace ho5 := ho5.upd hu2 ho5.zn (.inr (by omega))
      replace hr1 := hr1.upd hu2 (.inr (by omega))
      replace hr2 := hr2.upd hu2 (.inr (by omega))
      have n2 := hu2.size
      replace hu := hu.trans hu2
      clear hc1 hu2
      go_wp2_with fail
      refine (sRunNew_any m A4 c4 M A5 c5 N _ (by omega) ho4.ints (by omega) ho5.ints).mono ?_
      rintro e w3 ⟨A6, c6, rfl, ho6, hs3⟩
      obtain ⟨mo, hmo⟩ : ∃ mo, mo = newM m M N := ⟨_, rfl⟩
      obtain ⟨L, hL⟩ : ∃ L, L = newL m M N := ⟨_, rfl⟩
      have hv := new_valid m M N
      have hlL := newL_len m M N
      rw [← hmo, ← hL] at hv
      rw [← hL] at hlL ho6 ⊢
      rw [← hmo]
      have hlL7 : L.length ≤ 7 := by omega
      have HV := Lib.hid hv
      have al := ((Same.refl w3).alloc (.cells #[.int .i64 mo, .slice A6 L.length c6] 26)).alloc (.cells #[.slice none 0 0, .slice none 0 0] 29)
      have n3 := hs3.size
      have cs : CaseSt w ((w3.alloc (.cells #[.int .i64 mo, .slice A6 L.length c6] 26)).alloc (.cells #[.slice none 0 0, .slice none 0 0] 29)) g w3.heap.size (w3.heap.size + 1) mo L [] [] ⟨A6, c6, none, 0, none, 0⟩ := by
        have hbk := BoxAt.new (w3.alloc (.cells #[.int .i64 mo, .slice A6 L.length c6] 26)) 29 [.slice none 0 0, .slice none 0 0]
        rw [World.size_alloc] at hbk
        have hit : OwnItem w3 (w.heap.size + 1 + 1) (.slice A6 L.length c6) L := ho6.rebase (by omega)
        refine ⟨⟨(BoxAt.new w3 _ [_, _]).alloc _, hbk, ⟨hit.same al, OwnI.nil _ _, OwnI.nil _ _, fun b _ h => (by cases h), fun b _ h => (by cases h), fun b _ h => (by cases h)⟩, ⟨fun e => ?_, fun h => (by cases h), fun h => (by cases h)⟩, ⟨fun e => ?_, fun h => (by cases h), fun h => (by cases h)⟩, by omega, bareW.same ((hu.same hs3).same al), Nat.zero_le _, Nat.zero_le _, Nat.zero_le _, by simp; omega⟩,
          HV.out, rfl, hlL7, (hc2.same hs3).same al, (hu.same hs3).same al, (hr1.same hs3).same al, (hr2.same hs3).same al, hg, by omega, by omega⟩
        · have := (owns_new hit _ e).2; omega
        · have := (owns_new hit _ e).2; omega
      clear ho4 ho5 ho6 hu hc2 hr1 hr2 hs3 hmo hL hv sp al
      go_wp2
      generalize (w3.alloc (.cells #[.int .i64 mo, .slice A6 L.length c6] 26)).alloc (.cells #[.slice none 0 0, .slice none 0 0] 29) = w4 at *
      generalize w3.heap.size = gr at *
      obtain ⟨gb, hgb⟩ : ∃ gb, gb = gr + 1 := ⟨_, rfl⟩
      rw [← hgb] at cs ⊢
      clear hgb
      go_loopw [10] (fun t10 wr => ∃ (k : Nat) (K C : List Int) (ρ : RBRes), k ≤ 3 ∧ t10 = .int .i64 k ∧ K.length ≤ k ∧ CaseSt w wr g gr gb mo L K C ρ) (fun t10 _ => 4 - (intOf t10).toNat)
      case atStart => exact ⟨0, [], [], _, by omega, rfl, by simp, cs⟩
      case round =>
        obtain ⟨k2, K, C, ⟨A, c, B, d, D, f⟩, hk2, rfl, hK, cs2⟩ := hrel
        clear cs
        have hln := cs2.len
        go_wp2_with fail
        refine (l01Below_any g 4 _ (by omega) (by omega) cs2.cur).mono ?_
        rintro e w5 ⟨x, rfl, x0, x1, hc5, hu5⟩
        replace cs2 := cs2.draw hu5 hc5
        clear hc5 hu5
        by_cases hlt2 : (k2 : Int) < x
        · have hb : BoxAt w5 gb 29 [.slice B K.length d, .slice D C.length f] := cs2.st.bank
          have b0 := hb.cell 0 rfl
          have b1 := hb.cell 1 rfl
          have cs3 := cs2.world (Same.refl _).drew
          have c60z := l01Below_any g 60 _ (by omega) (by omega) cs3.cur
          go_wp2
          go_region_law
            (first
              | (refine step_of (by rfl) ?_; go_simp; go_at_call 52; (with_reducible refine Calls.mono c60z ?_); rintro e w6 ⟨y60, rfl, _, _, hc60, hu60⟩; dsimp only; (have cs4 := cs3.draw hu60 hc60); (have c20z := l01Below_any g 20 _ (by omega) (by omega) cs4.cur); (have hb60 : BoxAt w6 gb 29 [.slice B K.length d, .slice D C.length f] := cs4.st.bank); (have b600 := hb60.cell 0 rfl); (have b601 := hb60.cell 1 rfl))
              | (refine step_of (by rfl) ?_; go_simp; go_at_call 52; (with_reducible refine Calls.mono c20z ?_); rintro e w7 ⟨y20, rfl, _, _, hc20, hu20⟩; dsimp only; (have cs5 := cs4.draw hu20 hc20); (have c500z := l01Below_any g 500 _ (by omega) (by omega) cs5.cur); (have hb20 : BoxAt w7 gb 29 [.slice B K.length d, .slice D C.length f] := cs5.st.bank); (have b200 := hb20.cell 0 rfl); (have b201 := hb20.cell 1 rfl))
              | (refine step_of (by rfl) ?_; go_simp; go_at_call 52; (with_reducible refine Calls.mono c500z ?_); rintro e w8 ⟨y500, rfl, _, _, hc500, hu500⟩; dsimp only; (have cs6 := cs5.draw hu500 hc500); (have hb500 : BoxAt w8 gb 29 [.slice B K.length d, .slice D C.length f] := cs6.st.bank); (have b5000 := hb500.cell 0 rfl); (have b5001 := hb500.cell 1 rfl); (have oK6 : OwnI w8 (w.heap.size + 1 + 1) (.slice B K.length d) K := cs6.st.own.ks); (have oC6 : OwnI w8 (w.heap.size + 1 + 1) (.slice D C.length f) C := cs6.st.own.cs))
              | (refine step_of (by rfl) ?_; go_simp; go_at_call 41; refine (sAccept_some B d K D f C _ _ _ _ cs6.okB oK6 oC6).mono ?_; rintro e w9 ⟨K9, C9, ok9, hb9k, hl9, A9, c9, B9, d9, rfl, oK, oC, sp9, hs9⟩; dsimp only; (have hb9 := hb500.same hs9); (have q0 := hb9.cell 0 rfl); (have q1 := hb9.cell 1 rfl); (have qf0 := hb9.frozen 0); (have qf1 := hb9.frozen 1); (have cs9 := cs6.step (upd_one hs9 cs6.g2 cs6.st.bank.lt) (Nat.le_refl _) (cs6.st.newBank hs9 oK oC sp9) cs6.okR hb9k cs6.lenL)))
          all_goals
            have hk3 : k2 + 1 ≤ 3 := by omega
            have hl10 := Nat.le_trans hl9 (Nat.succ_le_succ hK)
            go_wp2
            go_roundw
            case rel => exact ⟨k2 + 1, _, _, _, hk3, by go_num, hl10, cs9⟩
            case measure => simp [intOf]; omega
        · go_wp2
          go_loopw [11] (fun t11 wr => ∃ (j : Nat) (L : List TItem) (K C : List Int) (ρ : RBRes), j ≤ 5 ∧ t11 = .int .i64 j ∧ K.length ≤ 3 + j ∧ CaseSt w wr g gr gb mo L K C ρ) (fun t11 _ => 6 - (intOf t11).toNat)
          case atStart => exact ⟨0, L, K, C, _, by omega, rfl, by omega, cs2⟩
          case round =>
            obtain ⟨j, L2, K2, C2, ⟨A2, c2, B2, d2, D2, f2⟩, hj, rfl, hK2, cs7⟩ := hrel
            clear cs2
            have hln2 := cs7.len
            go_wp2_with fail
            refine (l01Below_any g 6 _ (by omega) (by omega) cs7.cur).mono ?_
            rintro e w6 ⟨z, rfl, z0, z1, hc6, hu6⟩
            replace cs7 := cs7.draw hu6 hc6
            clear hc6 hu6
            by_cases hlt3 : (j : Int) < z
            · have hr : BoxAt w6 gr 26 [.int .i64 mo, .slice A2 L2.length c2] := cs7.st.run
              have hb : BoxAt w6 gb 29 [.slice B2 K2.length d2, .slice D2 C2.length f2] := cs7.st.bank
              have r0 := hr.cell 0 rfl
              have r1 := hr.cell 1 rfl
              have b0 := hb.cell 0 rfl
              have b1 := hb.cell 1 rfl
              go_wp2_with fail
              refine (sSend_any mo A2 c2 L2 B2 d2 K2 D2 f2 C2 _ (by omega) (OwnR.nil_cap2 cs7.st.own.it) (OwnR.recs cItem_len cs7.st.own.it) (by omega) (OwnI.nil_cap cs7.st.own.ks) (OwnI.cap cs7.st.own.ks) (OwnI.ints cs7.st.own.ks) (by omega) (OwnI.nil_cap cs7.st.own.cs) (OwnI.ints cs7.st.own.cs)).mono ?_
              have hok3 := sendL_ok (K := K2) (C := C2) cs7.okR
              have hob3 := sendKC_ok (m := mo) (L := L2) cs7.okB
              have hl3 := sendL_len mo L2 K2 C2
              have hk3 := sendK_len mo L2 K2 C2
              obtain ⟨L3, hL3⟩ : ∃ L3, L3 = sendL mo L2 K2 C2 := ⟨_, rfl⟩
              obtain ⟨K3, hK3⟩ : ∃ K3, K3 = sendK mo L2 K2 C2 := ⟨_, rfl⟩
              obtain ⟨C3, hC3⟩ : ∃ C3, C3 = sendC mo L2 K2 C2 := ⟨_, rfl⟩
              rw [← hL3, ← hK3, ← hC3]
              rw [← hL3] at hok3 hl3
              rw [← hK3] at hob3 hk3
              rw [← hC3] at hob3
              rintro e w7 ⟨A3, c3, B3, d3, D3, f3, rfl, oi, ok, oc, s1, s2, s3, hs7⟩
              have cs8 := cs7.step (upd_two hs7 cs7.g1 cs7.g2 cs7.st.run.lt cs7.st.bank.lt) (Nat.le_refl _) (cs7.st.newAll hs7 oi ok oc s1 s2 s3) hok3 hob3 (by omega)
              have hne := cs7.st.ne
              replace hr := hr.same hs7
              replace hb := hb.same hs7
              have hk4 : K3.length ≤ 3 + (j + 1) := by omega
              clear r0 r1 b0 b1 hL3 hK3 hC3 hok3 hob3 hl3 hk3 oi ok oc s1 s2 s3
              have r0 := hr.cell 0 rfl
              have r1 := hr.cell 1 rfl
              have y0 := hr.frozen 0
              have y1 := hr.frozen 1
              have hb2 := (hb.other (k := gr) (j := 0) (.int .i64 mo) (Ne.symm hne)).other (k := gr) (j := 1) (.slice A3 L3.length c3) (Ne.symm hne)
              have z0 := hb2.frozen 0
              have z1 := hb2.frozen 1
              have b0 := hb2.cell 0 rfl
              have b1 := hb2.cell 1 rfl
              clear hr hb hb2 hne cs7 hs7
              go_wp2_with fail
              generalize (((w7.setCell ⟨gr, 0, none⟩ (.int .i64 mo)).setCell ⟨gr, 1, none⟩ (.slice A3 L3.length c3)).setCell ⟨gb, 0, none⟩ (.slice B3 K3.length d3)).setCell ⟨gb, 1, none⟩ (.slice D3 C3.length f3) = w8 at *
              clear r0 r1 y0 y1 z0 z1 b0 b1
              refine (l01Once_any g 4 _ (by omega) (by omega) cs8.cur).mono ?_
              rintro e w9 ⟨b, rfl, hc9, hu9⟩
              replace cs8 := cs8.draw hu9 hc9
              clear hc9 hu9
              have hln3 := cs8.len
              have hr : BoxAt w9 gr 26 [.int .i64 mo, .slice A3 L3.length c3] := cs8.st.run
              have hb : BoxAt w9 gb 29 [.slice B3 K3.length d3, .slice D3 C3.length f3] := cs8.st.bank
              have r0 := hr.cell 0 rfl
              have r1 := hr.cell 1 rfl
              have b0 := hb.cell 0 rfl
              have b1 := hb.cell 1 rfl
              have hj6 : j + 1 ≤ 5 := by omega
              cases b
              · go_wp2
                go_roundw
                case rel => exact ⟨j + 1, L3, K3, C3, _, hj6, by go_num, hk4, cs8⟩
                case measure => simp [intOf]; omega
              · go_wp2_with fail
                refine (sConfirm_any mo A3 c3 L3 B3 d3 K3 D3 f3 C3 _ (by omega) (OwnR.nil_cap2 cs8.st.own.it) (OwnR.recs cItem_len cs8.st.own.it) (by omega) (OwnI.cap cs8.st.own.ks) (OwnI.ints cs8.st.own.ks) (by omega) (OwnI.ints cs8.st.own.cs)).mono ?_
                have hok3 := confirm_ok (K := K3) (C := C3) cs8.okR
                have hl3 := confirm_len mo L3 K3 C3
                obtain ⟨L4, hL4⟩ : ∃ L4, L4 = confirm mo L3 K3 C3 := ⟨_, rfl⟩
                rw [← hL4]
                rw [← hL4] at hok3 hl3
                rintro e w10 ⟨A4, c4, rfl, oi, hs10⟩
                have cs10 := cs8.step (upd_one hs10 cs8.g1 cs8.st.run.lt) (Nat.le_refl _) (cs8.st.newRun hs10 oi) hok3 cs8.okB (by omega)
                replace hr := hr.same hs10
                clear r0 r1 b0 b1 hL4 hl3 hok3 oi hs10 cs8 hb
                have r0 := hr.cell 0 rfl
                have r1 := hr.cell 1 rfl
                have y0 := hr.frozen 0
                have y1 := hr.frozen 1
                go_wp2
                go_roundw
                case rel => exact ⟨j + 1, L4, K3, C3, _, hj6, by go_num, hk4, cs10⟩
                case measure => simp [intOf]; omega
            · have hr : BoxAt w6 gr 26 [.int .i64 mo, .slice A2 L2.length c2] := cs7.st.run
              have hb : BoxAt w6 gb 29 [.slice B2 K2.length d2, .slice D2 C2.length f2] := cs7.st.bank
              have hq1 := cs7.r1
              have hq2 := cs7.r2
              have hsx := Same.refl w6
              have g1 := cs7.g1
              have g2 := cs7.g2
              have s0 := hr.cell 0 rfl
              have s1 := hr.cell 1 rfl
              have s2 := hb.cell 0 rfl
              have s3 := hb.cell 1 rfl
              have nlt1 := hr.lt
              have nlt2 := hb.lt
              have nW := Same.size hsx
              have kr := hq1.same hsx
              have kt := hq2.same hsx
              have kr0 := kr.cell 0 rfl
              have kr1 := kr.cell 1 rfl
              have kt0 := kt.cell 0 rfl
              have kt1 := kt.cell 1 rfl
              have krf0 := kr.frozen 0
              have krf1 := kr.frozen 1
              have ktf0 := kt.frozen 0
              have ktf1 := kt.frozen 1
              have ppa := (hr.other (k := w.heap.size) (j := 0) (.int .i64 mo) (by omega)).other (k := w.heap.size) (j := 1) (.slice A2 L2.length c2) (by omega)
              have pa := BoxAt.same ppa (Same.refl _).drew
              have qa := BoxAt.same ((ppa.other (k := (w.heap.size + 1)) (j := 0) (.slice B2 K2.length d2) (by omega)).other (k := (w.heap.size + 1)) (j := 1) (.slice D2 C2.length f2) (by omega)) (Same.refl _).drew
              have ua := BoxAt.same hr (Same.refl _).drew
              have ppb := (hb.other (k := w.heap.size) (j := 0) (.int .i64 mo) (by omega)).other (k := w.heap.size) (j := 1) (.slice A2 L2.length c2) (by omega)
              have pb := BoxAt.same ppb (Same.refl _).drew
              have qb := BoxAt.same ((ppb.other (k := (w.heap.size + 1)) (j := 0) (.slice B2 K2.length d2) (by omega)).other (k := (w.heap.size + 1)) (j := 1) (.slice D2 C2.length f2) (by omega)) (Same.refl _).drew
              have ub := BoxAt.same hb (Same.refl _).drew
              have pa0 := pa.cell 0 rfl
              have pa1 := pa.cell 1 rfl
              have pb0 := pb.cell 0 rfl
              have pb1 := pb.cell 1 rfl
              have qa0 := qa.cell 0 rfl
              have qa1 := qa.cell 1 rfl
              have qb0 := qb.cell 0 rfl
              have qb1 := qb.cell 1 rfl
              have ua0 := ua.cell 0 rfl
              have ua1 := ua.cell 1 rfl
              have ub0 := ub.cell 0 rfl
              have ub1 := ub.cell 1 rfl
              go_wp2_with fail
              go_region_held3 (fun x => x.cell? ⟨gr, 0, none⟩ = some (.int .i64 mo) ∧ x.cell? ⟨gr, 1, none⟩ = some (.slice A2 L2.length c2) ∧ x.cell? ⟨gb, 0, none⟩ = some (.slice B2 K2.length d2) ∧ x.cell? ⟨gb, 1, none⟩ = some (.slice D2 C2.length f2))
                (first | (with_reducible exact ⟨qa0, qa1, qb0, qb1⟩) | (with_reducible exact ⟨pa0, pa1, pb0, pb1⟩) | (with_reducible exact ⟨ua0, ua1, ub0, ub1⟩))
                (fail)
              have F := laid4 (w := bareW w) kr kt (by omega) (base := w.heap.size + 1 + 1) (by omega) (by omega) (Nat.zero_le _) (Nat.zero_le _) cs7.st.same cs7.st.own.it cs7.st.own.ks cs7.st.own.cs (.int .i64 mo) (.slice A2 L2.length c2) (.slice B2 K2.length d2) (.slice D2 C2.length f2)
              have hu9 := upd_two (u0 := .int .i64 mo) (u1 := .slice A2 L2.length c2) (v0 := .slice B2 K2.length d2) (v1 := .slice D2 C2.length f2) (Same.refl w6) (lo := w.heap.size) (Nat.le_refl _) (by omega) kr.lt kt.lt
              have hc9 := cs7.cur.upd hu9 hg
              have hu10 := cs7.upd.trans' hu9 (Nat.le_refl _)
              clear kr kt s0 s1 s2 s3 kr0 kr1 kt0 kt1 krf0 krf1 ktf0 ktf1 pa pb qa qb pa0 pa1 pb0 pb1 qa0 qa1 qb0 qb1 ppa ppb ua ub ua0 ua1 ub0 ub1
              have F0 := F.run.cell 0 rfl
              have F1 := F.run.cell 1 rfl
              have F2 := F.bank.cell 0 rfl
              have F3 := F.bank.cell 1 rfl
              unfold lay4 at F0 F1 F2 F3
              go_wp2
              exact bodyPost_ret (v := .tuple #[.agg #[.int .i64 mo, .slice A2 L2.length c2], .agg #[.slice B2 K2.length d2, .slice D2 C2.length f2]]) (by simp [results, Try.results50, go_sem, F0, F1, F2, F3]) rfl
                ⟨mo, L2, K2, C2, ⟨A2, c2, B2, d2, D2, f2⟩, rfl, ⟨cs7.okR, cs7.okB, cs7.lenL, by omega, ⟨(F.items.rebase (by omega)).same (Same.refl _).drew, (F.keys.base (by omega)).same (Same.refl _).drew, (F.cents.base (by omega)).same (Same.refl _).drew, cs7.st.own.s1, cs7.st.own.s2, cs7.st.own.s3⟩⟩, hc9.same (Same.refl _).drew, hu10.same (Same.refl _).drew⟩

/-- A run and a bank got from bytes. -/
def GotPay (w : World) (e : Ending) (w' : World) : Prop :=
  ∃ (m : Int) (L : List TItem) (K C : List Int) (A : Option Addr) (c : Nat) (B : Option Addr) (d : Nat) (D : Option Addr) (f : Nat), e = .returned (.tuple #[.agg #[.int .i64 m, .slice A L.length c], .agg #[.slice B K.length d, .slice D C.length f]]) ∧
    runOk m L = true ∧ bankOk K C = true ∧ L.length ≤ 7 ∧ K.length ≤ 8 ∧ OwnItem w' w.heap.size (.slice A L.length c) L ∧ OwnI w' w.heap.size (.slice B K.length d) K ∧ OwnI w' w.heap.size (.slice D C.length f) C ∧ Same w w'
set_option maxHeartbeats 1000000 in
theorem drawPay_any (A : Option Addr) (n c : Nat) (w : World) (hn : n ≤ 1048576) (hA : BytesAt w w.heap.size A n) : Calls Try.prog 17 #[.slice A n c] w (GotPay w) := by
  go_enter Try.func17, Try.ntmps17
  go_wp2_with fail
  have h3 : BoxAt ((w.alloc (.cells #[.int .i64 0, .slice none 0 0] 26)).alloc (.cells #[.slice none 0 0, .slice none 0 0] 29)) (w.heap.size) 26 [.int .i64 0, .slice none 0 0] := by simpa using (BoxAt.alloc (BoxAt.new w 26 [.int .i64 0, .slice none 0 0]) (.cells #[.slice none 0 0, .slice none 0 0] 29))
  have h4 : BoxAt ((w.alloc (.cells #[.int .i64 0, .slice none 0 0] 26)).alloc (.cells #[.slice none 0 0, .slice none 0 0] 29)) (w.heap.size + 1) 29 [.slice none 0 0, .slice none 0 0] := by simpa using (BoxAt.new (w.alloc (.cells #[.int .i64 0, .slice none 0 0] 26)) 29 [.slice none 0 0, .slice none 0 0])
  have hs0 := (Same.alloc (Same.alloc (Same.refl w) (.cells #[.int .i64 0, .slice none 0 0] 26)) (.cells #[.slice none 0 0, .slice none 0 0] 29))
  generalize ((w.alloc (.cells #[.int .i64 0, .slice none 0 0] 26)).alloc (.cells #[.slice none 0 0, .slice none 0 0] 29)) = w0 at *
  have n0 := hs0.size
  have n4 := h4.lt
  refine (l01New_any A n c _ hn (hA.keep' hs0)).mono ?_
  rintro e w1 ⟨g, rfl, hg0, hc1, hs1⟩
  have n1 := hs1.size
  go_wp2_with fail
  refine (l25Case_any g _ hc1).mono ?_
  rintro e w2 ⟨m, L, K, C, ⟨A2, c2, B2, d2, D2, f2⟩, hee, hp, hc2, hu2⟩
  obtain rfl : e = .returned (.tuple #[.agg #[.int .i64 m, .slice A2 L.length c2], .agg #[.slice B2 K.length d2, .slice D2 C.length f2]]) := hee
  have S2 := hs1.upds hu2 hg0
  replace h3 := h3.same S2
  replace h4 := h4.same S2
  have F := laid4 (w := w) h3 h4 (by omega) (base := w1.heap.size) (by omega) (by omega) (by omega) (by omega) (hs0.trans S2) hp.own.it hp.own.ks hp.own.cs (.int .i64 m) (.slice A2 L.length c2) (.slice B2 K.length d2) (.slice D2 C.length f2)
  have k0 := h3.cell 0 rfl
  have k1 := h3.cell 1 rfl
  have kf0 := h3.frozen 0
  have kf1 := h3.frozen 1
  have h5 := (h4.other (k := w.heap.size) (j := 0) (.int .i64 m) (by omega)).other (k := w.heap.size) (j := 1) (.slice A2 L.length c2) (by omega)
  have q0 := h5.cell 0 rfl
  have q1 := h5.cell 1 rfl
  have qf0 := h5.frozen 0
  have qf1 := h5.frozen 1
  have F0 := F.run.cell 0 rfl
  have F1 := F.run.cell 1 rfl
  have F2 := F.bank.cell 0 rfl
  have F3 := F.bank.cell 1 rfl
  unfold lay4 at F0 F1 F2 F3
  clear h3 h4 h5
  go_wp2
  exact bodyPost_ret (v := .tuple #[.agg #[.int .i64 m, .slice A2 L.length c2], .agg #[.slice B2 K.length d2, .slice D2 C.length f2]]) (by simp [results, Try.results17, go_sem, F0, F1, F2, F3]) rfl
    ⟨m, L, K, C, A2, c2, B2, d2, D2, f2, rfl, hp.okR, hp.okB, hp.lenL, hp.lenK, F.items.rebase (by omega), F.keys.base (by omega), F.cents.base (by omega), F.same⟩
end Go.Proofs.Ytccgbilgfnoheaa
