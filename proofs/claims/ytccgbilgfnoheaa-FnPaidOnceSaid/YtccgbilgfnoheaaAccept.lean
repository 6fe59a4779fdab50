/-
  A bank in a box whose two rows grow one after the other; what Accept hands back; the reference's Accept.
-/
import Derived.Test.YtccgbilgfnoheaaCopyS
import Derived.Test.YtccgbilgfnoheaaCopyB
namespace Go.Proofs.Ytccgbilgfnoheaa
open Go.RowKit
set_option linter.unusedVariables false
set_option linter.unnecessarySimpa false

theorem OwnI.nil_cap {w : World} {base n c : Nat} {A : Option Addr} {L : List Int} (h : OwnI w base (.slice A n c) L) : A = none → c = 0 := fun hA => by
  rcases h.2 with ⟨hv, _⟩ | ⟨g, cap, cur, hv, _⟩
  · injection hv
  · injection hv with h1; rw [hA] at h1; cases h1
theorem owns_set {a : World} {base : Nat} {e : TypeId} {s : Nat} {v : Value} {n : Nat} {xs : List Value} (h : a.ownsRow base e s v n xs) {k j : Nat} {u : Value} (hv : v.ownBlock ≠ some k) : (a.setCell ⟨k, j, none⟩ u).ownsRow base e s v n xs := by
  refine ⟨h.1, ?_⟩
  rcases h.2 with hn | ⟨g, cap, cur, rfl, hb, hgg, rest⟩
  · exact .inl hn
  · exact .inr ⟨g, cap, cur, rfl, hb, (heap_setCell_other a _ _ _ (by intro e; exact hv (by rw [show g = k from e]; rfl))).trans hgg, rest⟩
/-- A bank lies in a box, its rows apart from each other and from the box. -/
structure BankAt (w : World) (g base : Nat) (A : Option Addr) (c : Nat) (K : List Int) (B : Option Addr) (d : Nat) (C : List Int) : Prop where
  box : BoxAt w g 29 [.slice A K.length c, .slice B C.length d]
  keys : OwnI w base (.slice A K.length c) K
  cents : OwnI w base (.slice B C.length d) C
  sep : Sep (.slice A K.length c) (.slice B C.length d)
  nk : (Value.slice A K.length c).ownBlock ≠ some g
  nc : (Value.slice B C.length d).ownBlock ≠ some g
section
variable {w a b : World} {g base : Nat} {A : Option Addr} {c : Nat} {K : List Int} {B : Option Addr} {d : Nat} {C : List Int} {A3 : Option Addr} {c3 : Nat} {K3 : List Int}
theorem BankAt.same (h : BankAt w g base A c K B d C) (hs : Same w a) : BankAt a g base A c K B d C := ⟨h.box.same hs, h.keys.same hs, h.cents.same hs, h.sep, h.nk, h.nc⟩
theorem from_ne {v v' : Value} {k : Nat} (hf : From a v v') (hv : v.ownBlock ≠ some k) (hk : k < a.heap.size) : v'.ownBlock ≠ some k := fun e => by
  rcases hf k e with h | h
  · exact hv h
  · omega
theorem BankAt.put0 (h : BankAt w g base A c K B d C) (hs : Same w a) (hup : a.grownBy b (Value.slice A K.length c).ownBlock) (ho : OwnI b base (.slice A3 K3.length c3) K3) (hf : From a (.slice A K.length c) (.slice A3 K3.length c3)) :
    BankAt (b.setCell ⟨g, 0, none⟩ (.slice A3 K3.length c3)) g base A3 c3 K3 B d C := by
  have h' := h.same hs
  have n3 := from_ne hf h.nk h'.box.lt
  exact ⟨(grown_box hup h'.box h.nk).set 0 _, owns_set ho n3, owns_set (grown_owns hup h'.cents h.sep) h.nc, Sep.from_ h.sep hf h'.cents, n3, h.nc⟩
theorem BankAt.put1 (h : BankAt w g base A c K B d C) (hs : Same w a) (hup : a.grownBy b (Value.slice B C.length d).ownBlock) (ho : OwnI b base (.slice A3 K3.length c3) K3) (hf : From a (.slice B C.length d) (.slice A3 K3.length c3)) :
    BankAt (b.setCell ⟨g, 1, none⟩ (.slice A3 K3.length c3)) g base A c K A3 c3 K3 := by
  have h' := h.same hs
  have n3 := from_ne hf h.nc h'.box.lt
  exact ⟨(grown_box hup h'.box h.nc).set 1 _, owns_set (grown_owns hup h'.keys h.sep.symm) h.nk, owns_set ho n3, (Sep.from_ h.sep.symm hf h'.keys).symm, h.nk, n3⟩
end

def accOk (K C : List Int) (key cents : Int) : Bool := !hasK K key && (bankOk K C && bankOk (K ++ [key]) (C ++ [cents]))
def accK (K C : List Int) (key cents : Int) : List Int := if accOk K C key cents = true then K ++ [key] else K
def accC (K C : List Int) (key cents : Int) : List Int := if accOk K C key cents = true then C ++ [cents] else C
theorem acc_no {K C : List Int} {key cents : Int} (h : accOk K C key cents = false) : accK K C key cents = K ∧ accC K C key cents = C := by simp [accK, accC, h]
theorem acc_yes {K C : List Int} {key cents : Int} (h : accOk K C key cents = true) : accK K C key cents = K ++ [key] ∧ accC K C key cents = C ++ [cents] := by simp [accK, accC, h]
theorem accK_len (K C : List Int) (key cents : Int) : (accK K C key cents).length ≤ K.length + 1 := by unfold accK; split <;> simp
theorem accC_len (K C : List Int) (key cents : Int) : (accC K C key cents).length ≤ C.length + 1 := by unfold accC; split <;> simp
/-- A bank handed back with one value more. -/
def RetBankX (w : World) (K C : List Int) (x : Value) (e : Ending) (w' : World) : Prop := ∃ A c B d, e = .returned (.tuple #[.agg #[.slice A K.length c, .slice B C.length d], x]) ∧ OwnI w' w.heap.size (.slice A K.length c) K ∧ OwnI w' w.heap.size (.slice B C.length d) C ∧ Sep (.slice A K.length c) (.slice B C.length d) ∧ Same w w'

set_option maxHeartbeats 4000000 in
theorem sAccept_any (A : Option Addr) (c : Nat) (K : List Int) (B : Option Addr) (d : Nat) (C : List Int) (key cents : Int) (w : World) (hz : K.length ≤ 900000000) (hn : A = none → c = 0) (hcap : K.length ≤ c) (hA : IntsAt w A K) (hz' : C.length ≤ 900000000) (hn' : B = none → d = 0) (hB : IntsAt w B C) :
    Calls Try.prog 41 #[.agg #[.slice A K.length c, .slice B C.length d], .int .i64 key, .int .i64 cents] w (RetBankX w (accK K C key cents) (accC K C key cents) (.bool (accOk K C key cents))) := by
  go_enter Try.func41, Try.ntmps41
  go_wp2_with fail
  have h1 : BoxAt ((w.alloc (.cells #[.slice A K.length c, .slice B C.length d] 29)).alloc (.cells #[.slice none 0 0, .slice none 0 0] 29)) (w.heap.size) 29 [.slice A K.length c, .slice B C.length d] := by simpa using (BoxAt.alloc (BoxAt.new w 29 [.slice A K.length c, .slice B C.length d]) (.cells #[.slice none 0 0, .slice none 0 0] 29))
  have h2 : BoxAt ((w.alloc (.cells #[.slice A K.length c, .slice B C.length d] 29)).alloc (.cells #[.slice none 0 0, .slice none 0 0] 29)) (w.heap.size + 1) 29 [.slice none 0 0, .slice none 0 0] := by simpa using (BoxAt.new (w.alloc (.cells #[.slice A K.length c, .slice B C.length d] 29)) 29 [.slice none 0 0, .slice none 0 0])
  have hs0 := (Same.alloc (Same.alloc (Same.refl w) (.cells #[.slice A K.length c, .slice B C.length d] 29)) (.cells #[.slice none 0 0, .slice none 0 0] 29))
  generalize ((w.alloc (.cells #[.slice A K.length c, .slice B C.length d] 29)).alloc (.cells #[.slice none 0 0, .slice none 0 0] 29)) = w0 at *
  have n0 := hs0.size
  refine (l25Copy_any A c K B d C _ (by omega) hn (hA.same hs0) (by omega) hn' (hB.same hs0)).mono ?_
  rintro e w1 ⟨AK, cK, AC, cC, rfl, hoK, hoC, sp, hs1⟩
  have n1 := hs1.size
  have s2 := (Same.refl w1).alloc (.cells #[.slice AK K.length cK, .slice AC C.length cC] 29)
  have hb2 : BankAt (w1.alloc (.cells #[.slice AK K.length cK, .slice AC C.length cC] 29)) w1.heap.size w0.heap.size AK cK K AC cC C :=
    ⟨BoxAt.new w1 _ [_, _], hoK.same s2, hoC.same s2, sp, fun e' => by have := (owns_new hoK _ e').2; omega, fun e' => by have := (owns_new hoC _ e').2; omega⟩
  have S2 := hs1.trans s2
  have k2 : BoxAt ((w1.alloc (.cells #[.slice AK K.length cK, .slice AC C.length cC] 29)).alloc (.cells #[.int .i64 key] 3)) (w1.alloc (.cells #[.slice AK K.length cK, .slice AC C.length cC] 29)).heap.size 3 [.int .i64 key] := BoxAt.new _ _ [_]
  have c20 := hb2.box.cell 0 rfl
  have s2a := (Same.refl (w1.alloc (.cells #[.slice AK K.length cK, .slice AC C.length cC] 29))).alloc (.cells #[.int .i64 key] 3)
  have ra := hb2.keys.same s2a
  obtain ⟨K3, hK3⟩ : ∃ K3, K3 = K ++ [key] := ⟨_, rfl⟩
  obtain ⟨C3, hC3⟩ : ∃ C3, C3 = C ++ [cents] := ⟨_, rfl⟩
  have hlK3 : K3.length ≤ 900000001 := by rw [hK3]; simp; omega
  have hlC3 : C3.length ≤ 900000001 := by rw [hC3]; simp; omega
  have HK3 := Lib.hid hK3
  have HC3 := Lib.hid hC3
  clear hK3 hC3
  go_wp2_with (first
    | (at_builtin; refine wpList_of rfl fun _ hK => wp_oneI _ (.tmp 12) (.tmp 14) rfl w0.heap.size _ K rfl ra _ 1 key rfl ?_ ?_ ?_ ?_ (fun v' w3 ho3 hup3 hfr3 => hK _ _ ?_); (simpa using k2.cell 0 rfl); omega; (simp); (simp; omega); (rw [← HK3.out] at ho3); (obtain ⟨A3, c3, rfl⟩ := ho3.form); (have hb3 := hb2.put0 s2a hup3 ho3 hfr3); (have S3 := (grown_same (S2.trans s2a) hup3 (fun g hg => (owns_new ra g hg).1)).setCell (p := ⟨w1.heap.size, 0, none⟩) (by simpa using n1) (.slice A3 K3.length c3)); (have fb3 := grown_box hup3 (hb2.box.same s2a) hb2.nk); (have fz3 := fb3.frozen 0); (have fc3 := fb3.cell 0 rfl); (have fd3 := fb3.cell 1 rfl); (have c31 := hb3.box.cell 1 rfl); (have k3 := BoxAt.new (w3.setCell ⟨w1.heap.size, 0, none⟩ (.slice A3 K3.length c3)) 3 [.int .i64 cents]); (have s3a := (Same.refl (w3.setCell ⟨w1.heap.size, 0, none⟩ (.slice A3 K3.length c3))).alloc (.cells #[.int .i64 cents] 3)); (have rb := hb3.cents.same s3a); (have n3 := S3.size); (rw [World.size_setCell] at n3); clear hup3 ho3 hfr3 hb2)
    | (at_builtin; refine wpList_of rfl fun _ hK => wp_oneI _ (.tmp 18) (.tmp 20) rfl w0.heap.size _ C rfl rb _ 1 cents rfl ?_ ?_ ?_ ?_ (fun v' w4 ho4 hup4 hfr4 => hK _ _ ?_); (simpa using k3.cell 0 rfl); omega; (simp); (simp; omega); (rw [← HC3.out] at ho4); (obtain ⟨A4, c4, rfl⟩ := ho4.form); (have hb4 := hb3.put1 s3a hup4 ho4 hfr4); (have S4 := (grown_same (S3.trans s3a) hup4 (fun g hg => (owns_new rb g hg).1)).setCell (p := ⟨w1.heap.size, 1, none⟩) (by simpa using n1) (.slice A4 C3.length c4)); (have fb4 := grown_box hup4 (hb3.box.same s3a) hb3.nc); (have fz4 := fb4.frozen 1); (have fc4 := fb4.cell 1 rfl); (have fd4 := fb4.cell 0 rfl); (have e10 := (h1.same S4).cell 0 rfl); (have e11 := (h1.same S4).cell 1 rfl); clear hup4 ho4 hfr4 hb3))
  clear fb3 fc3 fd3 fb4 fc4 fd4 fz4 c31 k3 s3a rb n3 fz3 c20 s2 S2 s2a ra k2 hK hoK hoC sp hs1 S3
  clear hK
  generalize w4.setCell ⟨w1.heap.size, 1, none⟩ (.slice A4 C3.length c4) = w5 at *
  refine (l25Has_any A B c C.length d K key _ (by omega) ((hA.same hs0).same S4)).mono ?_
  rintro e w6 ⟨rfl, hs6⟩
  replace hb4 := hb4.same hs6
  replace S4 := S4.trans hs6
  clear hs6 e10 e11
  have e10 := (h1.same S4).cell 0 rfl
  have e11 := (h1.same S4).cell 1 rfl
  cases m1 : hasK K key
  · go_wp2_with fail
    refine (sBankOk_any A B c d K C _ (by omega) (by omega) hcap ((hA.same hs0).same S4) ((hB.same hs0).same S4)).mono ?_
    rintro e w7 ⟨rfl, hs7⟩
    replace hb4 := hb4.same hs7
    replace S4 := S4.trans hs7
    clear hs7 e10 e11
    cases m2 : bankOk K C
    · have HO := show accOk K C key cents = false by rw [accOk, m1, m2]; rfl
      have HN := Lib.hid (acc_no HO)
      replace HO := Lib.hid HO
      have e10 := (h1.same S4).cell 0 rfl
      have e11 := (h1.same S4).cell 1 rfl
      go_wp2_with fail
      refine (l25Copy_any A c K B d C _ (by omega) hn ((hA.same hs0).same S4) (by omega) hn' ((hB.same hs0).same S4)).mono ?_
      rintro e w9 ⟨A9, c9, B9, d9, rfl, ho9, hc9, sp9, hs9⟩
      have S9 := Same.trans S4 hs9
      have m9 := Same.size S4
      have k9 := h2.same S9
      have k90 := k9.cell 0 rfl
      have k91 := k9.cell 1 rfl
      have f90 := k9.frozen 0
      have f91 := k9.frozen 1
      have kk := (k9.set 0 (.slice A9 K.length c9)).set 1 (.slice B9 C.length d9)
      have cf0 := kk.cell 0 rfl
      have cf1 := kk.cell 1 rfl
      have l2 := h2.lt
      have nk9 : (Value.slice A9 K.length c9).ownBlock ≠ some (w.heap.size + 1) := fun e' => by have := (owns_new ho9 _ e').1; omega
      have nc9 : (Value.slice B9 C.length d9).ownBlock ≠ some (w.heap.size + 1) := fun e' => by have := (owns_new hc9 _ e').1; omega
      go_wp2
      refine bodyPost_ret (v := .tuple #[.agg #[.slice A9 K.length c9, .slice B9 C.length d9], .bool false]) (by simp [results, Try.results41, go_sem, cf0, cf1]) rfl ?_
      show RetBankX _ _ _ _ _ _
      rw [RetBankX, HN.out.1, HN.out.2, HO.out]
      exact ⟨_, _, _, _, rfl, owns_set (owns_set (ho9.base (by omega)) nk9) nk9, owns_set (owns_set (hc9.base (by omega)) nc9) nc9, sp9, ((hs0.trans S9).setCell (by simp) _).setCell (by simp) _⟩
    · have b0 := hb4.box.cell 0 rfl
      have b1 := hb4.box.cell 1 rfl
      go_wp2_with fail
      refine (sBankOk_any A3 A4 c3 c4 K3 C3 _ (by omega) (by omega) (OwnI.cap hb4.keys) hb4.keys.ints hb4.cents.ints).mono ?_
      rintro e w8 ⟨rfl, hs8⟩
      replace hb4 := hb4.same hs8
      replace S4 := S4.trans hs8
      clear hs8 b0 b1
      cases m3 : bankOk K3 C3
      · have HO := show accOk K C key cents = false by rw [accOk, m1, m2, ← HK3.out, ← HC3.out, m3]; rfl
        have HN := Lib.hid (acc_no HO)
        replace HO := Lib.hid HO
        have e10 := (h1.same S4).cell 0 rfl
        have e11 := (h1.same S4).cell 1 rfl
        go_wp2_with fail
        refine (l25Copy_any A c K B d C _ (by omega) hn ((hA.same hs0).same S4) (by omega) hn' ((hB.same hs0).same S4)).mono ?_
        rintro e w9 ⟨A9, c9, B9, d9, rfl, ho9, hc9, sp9, hs9⟩
        have S9 := Same.trans S4 hs9
        have m9 := Same.size S4
        have k9 := h2.same S9
        have k90 := k9.cell 0 rfl
        have k91 := k9.cell 1 rfl
        have f90 := k9.frozen 0
        have f91 := k9.frozen 1
        have kk := (k9.set 0 (.slice A9 K.length c9)).set 1 (.slice B9 C.length d9)
        have cf0 := kk.cell 0 rfl
        have cf1 := kk.cell 1 rfl
        have l2 := h2.lt
        have nk9 : (Value.slice A9 K.length c9).ownBlock ≠ some (w.heap.size + 1) := fun e' => by have := (owns_new ho9 _ e').1; omega
        have nc9 : (Value.slice B9 C.length d9).ownBlock ≠ some (w.heap.size + 1) := fun e' => by have := (owns_new hc9 _ e').1; omega
        go_wp2
        refine bodyPost_ret (v := .tuple #[.agg #[.slice A9 K.length c9, .slice B9 C.length d9], .bool false]) (by simp [results, Try.results41, go_sem, cf0, cf1]) rfl ?_
        show RetBankX _ _ _ _ _ _
        rw [RetBankX, HN.out.1, HN.out.2, HO.out]
        exact ⟨_, _, _, _, rfl, owns_set (owns_set (ho9.base (by omega)) nk9) nk9, owns_set (owns_set (hc9.base (by omega)) nc9) nc9, sp9, ((hs0.trans S9).setCell (by simp) _).setCell (by simp) _⟩
      · have HO := show accOk K C key cents = true by rw [accOk, m1, m2, ← HK3.out, ← HC3.out, m3]; rfl
        have HN := acc_yes HO
        rw [← HK3.out, ← HC3.out] at HN
        replace HN := Lib.hid HN
        replace HO := Lib.hid HO
        have b0 := hb4.box.cell 0 rfl
        have b1 := hb4.box.cell 1 rfl
        go_wp2_with fail
        refine (l25Copy_any A3 c3 K3 A4 c4 C3 _ (by omega) (OwnI.nil_cap hb4.keys) hb4.keys.ints (by omega) (OwnI.nil_cap hb4.cents) hb4.cents.ints).mono ?_
        rintro e w9 ⟨A9, c9, B9, d9, rfl, ho9, hc9, sp9, hs9⟩
        have S9 := Same.trans S4 hs9
        have m9 := Same.size S4
        have k9 := h2.same S9
        have k90 := k9.cell 0 rfl
        have k91 := k9.cell 1 rfl
        have f90 := k9.frozen 0
        have f91 := k9.frozen 1
        have kk := (k9.set 0 (.slice A9 K3.length c9)).set 1 (.slice B9 C3.length d9)
        have cf0 := kk.cell 0 rfl
        have cf1 := kk.cell 1 rfl
        have l2 := h2.lt
        have nk9 : (Value.slice A9 K3.length c9).ownBlock ≠ some (w.heap.size + 1) := fun e' => by have := (owns_new ho9 _ e').1; omega
        have nc9 : (Value.slice B9 C3.length d9).ownBlock ≠ some (w.heap.size + 1) := fun e' => by have := (owns_new hc9 _ e').1; omega
        go_wp2
        refine bodyPost_ret (v := .tuple #[.agg #[.slice A9 K3.length c9, .slice B9 C3.length d9], .bool true]) (by simp [results, Try.results41, go_sem, cf0, cf1]) rfl ?_
        show RetBankX _ _ _ _ _ _
        rw [RetBankX, HN.out.1, HN.out.2, HO.out]
        exact ⟨_, _, _, _, rfl, owns_set (owns_set (ho9.base (by omega)) nk9) nk9, owns_set (owns_set (hc9.base (by omega)) nc9) nc9, sp9, ((hs0.trans S9).setCell (by simp) _).setCell (by simp) _⟩
  · have HO := show accOk K C key cents = false by rw [accOk, m1]; rfl
    have HN := Lib.hid (acc_no HO)
    replace HO := Lib.hid HO
    go_wp2_with fail
    refine (l25Copy_any A c K B d C _ (by omega) hn ((hA.same hs0).same S4) (by omega) hn' ((hB.same hs0).same S4)).mono ?_
    rintro e w9 ⟨A9, c9, B9, d9, rfl, ho9, hc9, sp9, hs9⟩
    have S9 := Same.trans S4 hs9
    have m9 := Same.size S4
    have k9 := h2.same S9
    have k90 := k9.cell 0 rfl
    have k91 := k9.cell 1 rfl
    have f90 := k9.frozen 0
    have f91 := k9.frozen 1
    have kk := (k9.set 0 (.slice A9 K.length c9)).set 1 (.slice B9 C.length d9)
    have cf0 := kk.cell 0 rfl
    have cf1 := kk.cell 1 rfl
    have l2 := h2.lt
    have nk9 : (Value.slice A9 K.length c9).ownBlock ≠ some (w.heap.size + 1) := fun e' => by have := (owns_new ho9 _ e').1; omega
    have nc9 : (Value.slice B9 C.length d9).ownBlock ≠ some (w.heap.size + 1) := fun e' => by have := (owns_new hc9 _ e').1; omega
    go_wp2
    refine bodyPost_ret (v := .tuple #[.agg #[.slice A9 K.length c9, .slice B9 C.length d9], .bool false]) (by simp [results, Try.results41, go_sem, cf0, cf1]) rfl ?_
    show RetBankX _ _ _ _ _ _
    rw [RetBankX, HN.out.1, HN.out.2, HO.out]
    exact ⟨_, _, _, _, rfl, owns_set (owns_set (ho9.base (by omega)) nk9) nk9, owns_set (owns_set (hc9.base (by omega)) nc9) nc9, sp9, ((hs0.trans S9).setCell (by simp) _).setCell (by simp) _⟩
end Go.Proofs.Ytccgbilgfnoheaa
