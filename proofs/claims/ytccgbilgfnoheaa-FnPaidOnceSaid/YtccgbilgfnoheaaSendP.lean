/-
  l25Send: an item is sent within the boxes of a run and a bank.
-/
import Derived.Test.YtccgbilgfnoheaaPlanSend
import Derived.Test.YtccgbilgfnoheaaRBInv
import Derived.Test.YtccgbilgfnoheaaAcceptI
import Derived.Deep.Cut
import Derived.Deep.CutRange
namespace Go.Proofs.Ytccgbilgfnoheaa
open Go.RowKit
set_option linter.unusedVariables false
set_option linter.unnecessarySimpa false

/-- A run and a bank of one's own in two boxes. -/
structure SendSt (w0 w : World) (base gr gb : Nat) (m : Int) (L : List TItem) (K C : List Int) (ρ : RBRes) : Prop where
  run : BoxAt w gr 26 [.int .i64 m, ρ.it L]
  bank : BoxAt w gb 29 [ρ.ks K, ρ.cs C]
  own : RBOwn w base L K C ρ
  fr : ρ.far L K C gr
  fb : ρ.far L K C gb
  ne : gr ≠ gb
  same : Same w0 w
  l1 : w0.heap.size ≤ gr
  l2 : w0.heap.size ≤ gb
  lb : w0.heap.size ≤ base
  bs : base ≤ w.heap.size
theorem SendSt.world {w0 w w' : World} {base gr gb : Nat} {m : Int} {L : List TItem} {K C : List Int} {ρ : RBRes} (h : SendSt w0 w base gr gb m L K C ρ) (hs : Same w w') : SendSt w0 w' base gr gb m L K C ρ :=
  ⟨h.run.same hs, h.bank.same hs, h.own.same hs, h.fr, h.fb, h.ne, h.same.trans hs, h.l1, h.l2, h.lb, Nat.le_trans h.bs hs.size⟩
/-- The keys' row has grown, and is laid into its box. -/
theorem SendSt.keys {w0 w w' : World} {base gr gb : Nat} {m : Int} {L : List TItem} {K C K' : List Int} {A : Option Addr} {c : Nat} {B : Option Addr} {d : Nat} {D : Option Addr} {f : Nat} {B' : Option Addr} {d' : Nat}
    (h : SendSt w0 w base gr gb m L K C ⟨A, c, B, d, D, f⟩) (ho : OwnI w' base (.slice B' K'.length d') K') (hg : w.grownBy w' (Value.slice B K.length d).ownBlock) (hf : From w (.slice B K.length d) (.slice B' K'.length d')) :
    SendSt w0 (w'.setCell ⟨gb, 0, none⟩ (.slice B' K'.length d')) base gr gb m L K' C ⟨A, c, B', d', D, f⟩ := by
  have hne : ∀ {g}, g < w.heap.size → (Value.slice B K.length d).ownBlock ≠ some g → (Value.slice B' K'.length d').ownBlock ≠ some g := fun hlt hn e => by
    rcases hf _ e with h' | h'
    · exact hn h'
    · omega
  have n1 := hne h.run.lt h.fr.2.1
  have n2 := hne h.bank.lt h.fb.2.1
  have sz := hg.size
  refine ⟨(grown_box hg h.run h.fr.2.1).other _ h.ne, (grown_box hg h.bank h.fb.2.1).set 0 _, ⟨?_, ?_, ?_, (Sep.from_ h.own.s1.symm hf h.own.it).symm, h.own.s2, Sep.from_ h.own.s3 hf h.own.cs⟩, ⟨h.fr.1, n1, h.fr.2.2⟩, ⟨h.fb.1, n2, h.fb.2.2⟩, h.ne, (grown_same h.same hg (fun g hgb => Nat.le_trans h.lb (owns_new h.own.ks g hgb).1)).setCell h.l2 _, h.l1, h.l2, h.lb, by have := h.bs; simp; omega⟩
  · exact owns_set (grown_owns hg h.own.it h.own.s1.symm) h.fb.1
  · exact owns_set ho n2
  · exact owns_set (grown_owns hg h.own.cs h.own.s3) h.fb.2.2
theorem SendSt.cents {w0 w w' : World} {base gr gb : Nat} {m : Int} {L : List TItem} {K C C' : List Int} {A : Option Addr} {c : Nat} {B : Option Addr} {d : Nat} {D : Option Addr} {f : Nat} {D' : Option Addr} {f' : Nat}
    (h : SendSt w0 w base gr gb m L K C ⟨A, c, B, d, D, f⟩) (ho : OwnI w' base (.slice D' C'.length f') C') (hg : w.grownBy w' (Value.slice D C.length f).ownBlock) (hf : From w (.slice D C.length f) (.slice D' C'.length f')) :
    SendSt w0 (w'.setCell ⟨gb, 1, none⟩ (.slice D' C'.length f')) base gr gb m L K C' ⟨A, c, B, d, D', f'⟩ := by
  have hne : ∀ {g}, g < w.heap.size → (Value.slice D C.length f).ownBlock ≠ some g → (Value.slice D' C'.length f').ownBlock ≠ some g := fun hlt hn e => by
    rcases hf _ e with h' | h'
    · exact hn h'
    · omega
  have n1 := hne h.run.lt h.fr.2.2
  have n2 := hne h.bank.lt h.fb.2.2
  have sz := hg.size
  refine ⟨(grown_box hg h.run h.fr.2.2).other _ h.ne, (grown_box hg h.bank h.fb.2.2).set 1 _, ⟨?_, ?_, ?_, h.own.s1, (Sep.from_ h.own.s2.symm hf h.own.it).symm, (Sep.from_ h.own.s3.symm hf h.own.ks).symm⟩, ⟨h.fr.1, h.fr.2.1, n1⟩, ⟨h.fb.1, h.fb.2.1, n2⟩, h.ne, (grown_same h.same hg (fun g hgb => Nat.le_trans h.lb (owns_new h.own.cs g hgb).1)).setCell h.l2 _, h.l1, h.l2, h.lb, by have := h.bs; simp; omega⟩
  · exact owns_set (grown_owns hg h.own.it h.own.s2.symm) h.fb.1
  · exact owns_set (grown_owns hg h.own.ks h.own.s3.symm) h.fb.2.1
  · exact owns_set ho n2
/-- One cell of an item is written. -/
theorem SendSt.item {w0 w : World} {base gr gb : Nat} {m : Int} {L : List TItem} {K C : List Int} {g : Nat} {c : Nat} {B : Option Addr} {d : Nat} {D : Option Addr} {f : Nat} (h : SendSt w0 w base gr gb m L K C ⟨some ⟨g, 0, none⟩, c, B, d, D, f⟩)
    {k : Nat} {x y : TItem} {u : Value} {j : Nat} (hx : L[k]? = some x) (hj : j < 3) (hy : cItem y = (cItem x).set j u) : SendSt w0 (w.setCell ⟨g, k * 3 + j, none⟩ u) base gr gb m (L.set k y) K C ⟨some ⟨g, 0, none⟩, c, B, d, D, f⟩ := by
  have hst := OwnR.setc cItem_len (show OwnItem w base (.slice (some ⟨g, 0, none⟩) L.length c) L from h.own.it) hx hj hy
  have hl : (L.set k y).length = L.length := by simp
  have f1 : gr ≠ g := fun e => h.fr.1 (by rw [e]; rfl)
  have f2 : gb ≠ g := fun e => h.fb.1 (by rw [e]; rfl)
  have hit : (⟨some ⟨g, 0, none⟩, c, B, d, D, f⟩ : RBRes).it (L.set k y) = (⟨some ⟨g, 0, none⟩, c, B, d, D, f⟩ : RBRes).it L := by unfold RBRes.it; rw [hl]
  refine ⟨?_, h.bank.other _ f2, ⟨?_, ?_, ?_, ?_, ?_, h.own.s3⟩, ⟨?_, h.fr.2.1, h.fr.2.2⟩, ⟨?_, h.fb.2.1, h.fb.2.2⟩, h.ne, h.same.grown hst.2 (fun g' e => by injection e with e; subst e; exact Nat.le_trans h.lb (owns_new h.own.it _ rfl).1), h.l1, h.l2, h.lb, by simpa using h.bs⟩
  · rw [hit]; exact h.run.other _ f1
  · rw [hit]; exact hst.1
  · exact grown_owns (v := .slice (some ⟨g, 0, none⟩) L.length c) hst.2 h.own.ks h.own.s1
  · exact grown_owns (v := .slice (some ⟨g, 0, none⟩) L.length c) hst.2 h.own.cs h.own.s2
  · rw [hit]; exact h.own.s1
  · rw [hit]; exact h.own.s2
  · rw [hit]; exact h.fr.1
  · rw [hit]; exact h.fb.1

def RetSend (w0 : World) (base gr gb : Nat) (m : Int) (L : List TItem) (K C : List Int) (e : Ending) (w' : World) : Prop :=
  ∃ ρ, e = .returned (.bool (sendOk m L K C)) ∧ SendSt w0 w' base gr gb m (sendL m L K C) (sendK m L K C) (sendC m L K C) ρ
theorem RetSend.no {w0 w : World} {base gr gb : Nat} {m : Int} {L : List TItem} {K C : List Int} {ρ : RBRes} (h : SendSt w0 w base gr gb m L K C ρ) (hp : plan m L K C = none) : RetSend w0 base gr gb m L K C (.returned (.bool false)) w := by
  obtain ⟨a, b, c, d⟩ := send_none hp
  refine ⟨ρ, by rw [a], ?_⟩
  rw [b, c, d]; exact h
theorem RetSend.old {w0 w : World} {base gr gb : Nat} {m : Int} {L : List TItem} {K C : List Int} {i : Nat} {x : TItem} {ρ : RBRes} (h : SendSt w0 w base gr gb m (L.set i (x.1, x.2.1, 1)) K C ρ) (hp : plan m L K C = some (i, x, false)) : RetSend w0 base gr gb m L K C (.returned (.bool true)) w := by
  obtain ⟨a, b, c, d⟩ := send_old hp
  refine ⟨ρ, by rw [a], ?_⟩
  rw [b, c, d]; exact h
theorem RetSend.new {w0 w : World} {base gr gb : Nat} {m : Int} {L : List TItem} {K C : List Int} {i : Nat} {x : TItem} {ρ : RBRes} (h : SendSt w0 w base gr gb m (L.set i (x.1, x.2.1, 1)) (K ++ [keyOfI m x]) (C ++ [x.2.1]) ρ) (hp : plan m L K C = some (i, x, true)) : RetSend w0 base gr gb m L K C (.returned (.bool true)) w := by
  obtain ⟨a, b, c, d⟩ := send_new hp
  refine ⟨ρ, by rw [a], ?_⟩
  rw [b, c, d]; exact h

set_option maxRecDepth 100000 in
set_option maxHeartbeats 4000000 in
theorem l25Send_any (m : Int) (L : List TItem) (K C : List Int) (ρ : RBRes) (base gr gb : Nat) (w0 w : World) (st : SendSt w0 w base gr gb m L K C ρ) (m1 : runOk m L = true) (m2 : bankOk K C = true) :
    Calls Try.prog 78 #[.pointer (some ⟨gr, 0, none⟩), .pointer (some ⟨gb, 0, none⟩)] w (RetSend w0 base gr gb m L K C) := by
  obtain ⟨A, c, B, d, D, f⟩ := ρ
  have HM1 := Lib.hid m1
  have HM2 := Lib.hid m2
  have HR := Lib.hid (runOk_and m1)
  have hlen := HR.out.2.2
  have hmo := HR.out.2.1
  have hlK := (bankOk_iff.1 m2).2.1
  have hlC : C.length ≤ 2000 := by have := (bankOk_iff.1 m2).1; omega
  clear m1 m2
  go_enter Try.func78, Try.ntmps78
  go_wp2
  go_loopw [5] (fun i wr => ∃ k : Nat, k ≤ L.length ∧ i = .int .i64 k ∧ Hid ((L.take k).all (fun x => !isOpn x) = true) ∧ Same w wr) (fun i _ => L.length - (intOf i).toNat)
  case atStart => exact ⟨0, Nat.zero_le _, rfl, by simp [Hid], Same.refl _⟩
  case round =>
    obtain ⟨k, hk, rfl, hall, hs⟩ := hrel
    replace st := st.world hs
    have hr : BoxAt wr gr 26 [.int .i64 m, .slice A L.length c] := st.run
    have hb : BoxAt wr gb 29 [.slice B K.length d, .slice D C.length f] := st.bank
    have r0 := hr.cell 0 rfl
    have r1 := hr.cell 1 rfl
    by_cases hlt : k < L.length
    · obtain ⟨x, hx⟩ : ∃ x, L[k]? = some x := ⟨_, List.getElem?_eq_getElem hlt⟩
      have hit : OwnItem wr base (.slice A L.length c) L := st.own.it
      obtain ⟨g, rfl, _⟩ := OwnR.at_ cItem_len hit hx
      obtain ⟨_, _, hd, hf⟩ := OwnR.atg cItem_len hit hx
      have HX := Lib.hid hx
      obtain ⟨f0, f1, f2⟩ := x
      have d2 := hd 2 _ rfl
      have q0 : (0 : Int) ≤ (k : Int) := by omega
      have q1 : (k : Int) < (L.length : Int) := by omega
      by_cases hop : f2 = 0
      · subst hop
        have HOP := Lib.hid (show isOpn (f0, f1, 0) = true by rfl)
        have hok := itemOk_iff.1 (HR.out.1 k _ hx).1
        have hkr := key_range HM1.out hx
        have HPO := Lib.hid (plan_old HM1.out HM2.out hx HOP.out hall.out)
        have HPN := Lib.hid (plan_new HM1.out HM2.out hx HOP.out hall.out)
        have HPF := Lib.hid (plan_full HM1.out HM2.out hx HOP.out hall.out)
        clear hx hd hf hall
        dsimp only at hok hkr
        have b0 := hb.cell 0 rfl
        have b1 := hb.cell 1 rfl
        obtain ⟨key, hkey⟩ : ∃ key, key = keyOfI m (f0, f1, 0) := ⟨_, rfl⟩
        rw [← hkey] at HPO HPN HPF hkr
        have HKEY := Lib.hid hkey
        clear hkey
        clear d2
        have keepL : ∀ x : World, Same wr x → Same wr x ∧ x.cell? ⟨gr, 0, none⟩ = some (.int .i64 m) ∧ x.cell? ⟨gr, 1, none⟩ = some (.slice (some ⟨g, 0, none⟩) L.length c) ∧ x.cell? ⟨gb, 0, none⟩ = some (.slice B K.length d) ∧ x.cell? ⟨gb, 1, none⟩ = some (.slice D C.length f) :=
          fun x h => ⟨h, (hr.same h).cell 0 rfl, (hr.same h).cell 1 rfl, (hb.same h).cell 0 rfl, (hb.same h).cell 1 rfl⟩
        have d2 := ((OwnR.atg cItem_len hit HX.out).2.2.1) 2 _ rfl
        go_wp2
        clear d2
        go_region_held3 (fun x => Same wr x ∧ x.cell? ⟨gr, 0, none⟩ = some (.int .i64 m) ∧ x.cell? ⟨gr, 1, none⟩ = some (.slice (some ⟨g, 0, none⟩) L.length c) ∧ x.cell? ⟨gb, 0, none⟩ = some (.slice B K.length d) ∧ x.cell? ⟨gb, 1, none⟩ = some (.slice D C.length f))
          (first | exact keepL _ (Same.refl _).drew | exact keepL _ T9 | exact keepL _ T8)
          (first
            | (go_at_call 77; refine (l25Key_any m (some ⟨g, 0, none⟩) c L k (f0, f1, 0) _ (by omega) (OwnR.recs cItem_len (OwnR.same hit (Same.refl _).drew)) HX.out hmo hok.1).mono ?_; rw [show m * 1000 + (f0, f1, (0 : Int)).1 = key from HKEY.out.symm]; rintro e w8 ⟨rfl, hs8⟩; (have T8 := (Same.refl wr).drew.trans hs8))
            | (go_at_call 66; refine (l25Has_any B D d C.length f K key _ (by omega) (OwnI.ints (OwnI.same st.own.ks T8))).mono ?_; rintro e w9 ⟨rfl, hs9⟩; (have T9 := T8.trans hs9)))
        replace st := st.world T9
        clear hr hb r0 r1 b0 b1 keepL hit
        generalize hq : w9 = w5 at *
        clear hq
        have hr : BoxAt w5 gr 26 [.int .i64 m, .slice (some ⟨g, 0, none⟩) L.length c] := st.run
        have hb : BoxAt w5 gb 29 [.slice B K.length d, .slice D C.length f] := st.bank
        have hit : OwnItem w5 base (.slice (some ⟨g, 0, none⟩) L.length c) L := st.own.it
        have r0 := hr.cell 0 rfl
        have r1 := hr.cell 1 rfl
        have b0 := hb.cell 0 rfl
        have b1 := hb.cell 1 rfl
        cases hk2 : hasK K key
        · by_cases hl2 : K.length < 2000
          · have hl3 : (K.length : Int) < 2000 := by omega
            have HP := Lib.hid (HPN.out hk2 hl2)
            clear hk2
            obtain ⟨K3, hK3⟩ : ∃ K3, K3 = K ++ [key] := ⟨_, rfl⟩
            have HK3 := Lib.hid hK3
            have hlK3 : K3.length ≤ 2001 := by rw [hK3]; simp; omega
            clear hK3
            go_upto_region 8 with (fail)
            go_cut [] from 40 to 53 (fun wx => ∃ (B' : Option Addr) (d' : Nat), SendSt w0 wx base gr gb m L K3 C ⟨some ⟨g, 0, none⟩, c, B', d', D, f⟩)
            case first =>
              go_region_law
                (first
                  | (refine step_of (by rfl) ?_; go_simp; go_at_call 77; refine (l25Key_any m (some ⟨g, 0, none⟩) c L k (f0, f1, 0) _ (by omega) (OwnR.recs cItem_len (OwnR.same hit (Same.refl _).drew)) HX.out hmo hok.1).mono ?_; rw [show m * 1000 + (f0, f1, (0 : Int)).1 = key from HKEY.out.symm]; rintro e w6 ⟨rfl, hs6⟩; dsimp only; (have T6 := (Same.refl w5).drew.trans hs6); (have st6 := st.world T6); (have v0 := st6.run.cell 0 rfl); (have v1 := (show BoxAt w6 gr _ [.int .i64 m, .slice (some ⟨g, 0, none⟩) L.length c] from st6.run).cell 1 rfl); (have b60 := (show BoxAt w6 gb _ [.slice B K.length d, .slice D C.length f] from st6.bank).cell 0 rfl); (have st7 := st6.world ((Same.refl w6).alloc (.cells #[.int .i64 key] 3))); (have x0 := st7.run.cell 0 rfl); (have x1 := (show BoxAt _ gr _ [.int .i64 m, .slice (some ⟨g, 0, none⟩) L.length c] from st7.run).cell 1 rfl); (have b70 := (show BoxAt _ gb _ [.slice B K.length d, .slice D C.length f] from st7.bank).cell 0 rfl); (have hk7 := (BoxAt.new w6 3 [.int .i64 key]).cell 0 rfl))
                  | ((refine step_oneI _ (by rfl) (.tmp 44) (.tmp 50) (by rfl) base _ K (by rfl) st7.own.ks w6.heap.size 1 key (by rfl) hk7 (by omega) (by simp) st7.bs ?_; intro v' w8 ho8 hg8 hf8; rw [← HK3.out] at ho8; (obtain ⟨B', d', rfl⟩ := ho8.form); (have st8 := st7.keys ho8 hg8 hf8); (have r8 := grown_box hg8 st7.run st7.fr.2.1); (have y0 := r8.cell 0 rfl); (have y1 := (show BoxAt w8 gr _ [.int .i64 m, .slice (some ⟨g, 0, none⟩) L.length c] from r8).cell 1 rfl); (have b8 := (show BoxAt w8 gb _ [.slice B K.length d, .slice D C.length f] from grown_box hg8 st7.bank st7.fb.2.1)); (have b80 := b8.cell 0 rfl); (have b8f := b8.frozen 0); (have z0 := st8.run.cell 0 rfl); (have z1 := (show BoxAt _ gr _ [.int .i64 m, .slice (some ⟨g, 0, none⟩) L.length c] from st8.run).cell 1 rfl))))
              all_goals go_wp2_with fail
              all_goals go_meet
              all_goals exact ⟨_, _, st8⟩
            case rest =>
              obtain ⟨B', d', st9⟩ := hcut
              generalize wc = w10 at *
              obtain ⟨C3, hC3⟩ : ∃ C3, C3 = C ++ [f1] := ⟨_, rfl⟩
              have HC3 := Lib.hid hC3
              clear hC3
              clear hr hb hit r0 r1 b0 b1 st hs9 hs8
              have hr : BoxAt w10 gr 26 [.int .i64 m, .slice (some ⟨g, 0, none⟩) L.length c] := st9.run
              have hb : BoxAt w10 gb 29 [.slice B' K3.length d', .slice D C.length f] := st9.bank
              have hit : OwnItem w10 base (.slice (some ⟨g, 0, none⟩) L.length c) L := st9.own.it
              have hal := (Same.refl w10).alloc (.cells #[.int .i64 f1] 3)
              have st11 := st9.world hal.drew
              have d1 := ((OwnR.atg cItem_len hit HX.out).2.2.1) 1 _ rfl
              have r1 := hr.cell 1 rfl
              have b1 := hb.cell 1 rfl
              have hn1 := (BoxAt.new w10 3 [.int .i64 f1]).cell 0 rfl
              have hn2 := ((BoxAt.new w10 3 [.int .i64 f1]).same (Same.refl _).drew).cell 0 rfl
              have a1 := (hr.same hal).cell 1 rfl
              have a2 := (hb.same hal).cell 1 rfl
              have a3 := ((OwnR.atg cItem_len (OwnR.same hit hal) HX.out).2.2.1) 1 _ rfl
              go_upto_region 9 with (fail)
              go_cut [] from 54 to 70 (fun wx => ∃ (D' : Option Addr) (f' : Nat), SendSt w0 wx base gr gb m L K3 C3 ⟨some ⟨g, 0, none⟩, c, B', d', D', f'⟩)
              case first =>
                go_region_law ((refine step_oneI _ (by rfl) (.tmp 58) (.tmp 67) (by rfl) base _ C (by rfl) st11.own.cs w10.heap.size 1 f1 (by rfl) (by first | exact hn2 | exact hn1) (by omega) (by simp) st11.bs ?_; intro v' w12 ho12 hg12 hf12; rw [← HC3.out] at ho12; (obtain ⟨D', f', rfl⟩ := ho12.form); (have st12 := st11.cents ho12 hg12 hf12); (have b12 := (show BoxAt w12 gb _ [.slice B' K3.length d', .slice D C.length f] from grown_box hg12 st11.bank st11.fb.2.2)); (have c12 := b12.cell 1 rfl); (have e12 := b12.frozen 1)))
                all_goals go_wp2_with fail
                all_goals go_meet
                all_goals exact ⟨_, _, st12⟩
              case rest =>
                obtain ⟨D', f', st13⟩ := hcut
                generalize wc = w14 at *
                clear hr hb hit r1 b1 st9 st11 a1 a2 a3 d1 hn1 hn2 hal
                have hr : BoxAt w14 gr 26 [.int .i64 m, .slice (some ⟨g, 0, none⟩) L.length c] := st13.run
                have hit : OwnItem w14 base (.slice (some ⟨g, 0, none⟩) L.length c) L := st13.own.it
                have r1 := hr.cell 1 rfl
                obtain ⟨_, _, hd, hf⟩ := OwnR.atg cItem_len hit HX.out
                have d2 := hd 2 _ rfl
                have e2 := hf (k * 3 + 2)
                have st15 := st13.item (y := (f0, f1, 1)) (u := .int .i64 1) (j := 2) HX.out (by decide) rfl
                rw [HK3.out, HC3.out, HKEY.out] at st15
                have HP2 : plan m L K C = some (k, (f0, f1, 0), true) := HP.out
                have HS := Lib.hid (RetSend.new st15 HP2)
                clear hd hf HP2 st15
                go_wp2
                go_ret
                exact HS.out
          · have hl3 : (2000 : Int) ≤ (K.length : Int) := by omega
            have HP := Lib.hid (RetSend.no st (HPF.out hk2 hl2))
            clear hk2 hl2
            go_wp2
            go_ret
            exact HP.out
        · have HP := Lib.hid (HPO.out hk2)
          clear hk2
          obtain ⟨_, _, hd, hf⟩ := OwnR.atg cItem_len hit HX.out
          have d2 := hd 2 _ rfl
          have e2 := hf (k * 3 + 2)
          have HS := Lib.hid (RetSend.old (st.item (y := (f0, f1, 1)) (u := .int .i64 1) (j := 2) HX.out (by decide) rfl) HP.out)
          clear hd hf
          go_wp2
          go_ret
          exact HS.out
      · have q2 : (f2 != 0) = true := by simp [hop]
        have HALL := Lib.hid (all_take_succ hall.out hx (show (!isOpn (f0, f1, f2)) = true by simp [isOpn, hop]))
        clear hx hd hf hop
        go_wp2
        go_roundw
        case rel => exact ⟨k + 1, hlt, by go_num, HALL, hs⟩
        case measure => simp [intOf]; omega
    · have hl := hall.out
      rw [show k = L.length by omega, List.take_length] at hl
      have HP := Lib.hid (RetSend.no st (plan_no hl))
      clear hl hall
      go_wp2
      go_ret
      exact HP.out
end Go.Proofs.Ytccgbilgfnoheaa
