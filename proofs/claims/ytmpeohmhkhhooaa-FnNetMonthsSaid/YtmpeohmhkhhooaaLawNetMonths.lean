/-
  FnNetMonths: for every list of bytes a debt that fits into the first month is recovered at once. No condition.
-/
import Derived.Test.YtmpeohmhkhhooaaLawRecovered
namespace Go.Proofs.Ytmpeohmhkhhooaa
open Go.RowKit

theorem wp_appAllI (w : World) {o : Oper} {a : Act} {K : Act → World → Prop} {Q : Exit → Act → World → Prop} (s x : Operand)
    (ho : o.op = .call { callee := .builtin .append, args := #[s, x], argTypes := #[29, 29] })
    (base : Nat) (v : Value) (zs : List Int) (hs : a.eval s = v) (hown : OwnI w base v zs) (ad : Addr) (c : Nat) (ys : List Int) (hx : a.eval x = .slice (some ad) ys.length c)
    (hY : IntsAt w (some ad) ys) (hn : zs.length + ys.length ≤ 1000000000) (hbase : base ≤ w.heap.size)
    (h : ∀ v' w', OwnI w' base v' (zs ++ ys) → Upd base w.heap.size w w' → K (a.put o.dst v') w') : o.wp Try.prog a w K Q := by
  obtain ⟨i0, hi, hz0, hz1, hz2⟩ := info_parts Try.infoInt
  have hm : (zs.length + ys.length) * 8 ≤ 1000000000 * 8 := Nat.mul_le_mul_right 8 hn
  refine wp_append_own w s x 29 ho base 3 i0 (.int .i64 0) 1 8 Try.underlying29 hi hz0 hz1 hz2 rfl (by decide) v zs.length _ hs hown ad ys.length c (ys.map (Value.int .i64)) hx (by simp) ?_ ?_ (by unfold maxLen; omega) (by omega) hbase ?_
  · intro j u hu
    obtain ⟨y, hy, rfl⟩ := List.getElem?_map .. ▸ hu |> Option.map_eq_some_iff.1
    rcases hY with hY | ⟨b, off, hA, hb, hc⟩
    · subst hY; simp at hy
    · injection hA with hA
      subst hA
      rw [Addr.add_lit]
      exact hc j y hy
  · intro u hu
    obtain ⟨y, _, rfl⟩ := List.mem_map.1 hu
    rfl
  · intro v' w' h2 h3 _
    refine h v' w' ?_ ⟨h3.os, h3.tape, h3.output, h3.size, fun k hk ho' => h3.block k hk (fun e => ?_)⟩
    · show World.ownsRow _ _ _ _ _ _ _
      rw [List.length_append, List.map_append]
      exact h2
    · have := hown.lt k e.symm
      omega

theorem first_spec {first small pct : Int} {zs : List Int} (hf : 1000 ≤ first ∧ first ≤ 10999) (hp : 0 ≤ pct ∧ pct ≤ 100) (hl : zs.length ≤ 11) (hz : ∀ x ∈ zs, 0 ≤ x ∧ x ≤ 29990) (hs : 0 ≤ small ∧ small ≤ first * pct / 100) :
    recOk small (first :: zs) pct = true ∧ (plan small (first :: zs) pct)[0]? = some small ∧ (small = 0 → recoveredBy small (first :: zs) pct = 0) ∧ (small ≠ 0 → recoveredBy small (first :: zs) pct = 1) ∧ waived small (first :: zs) pct = 0 := by
  have a1 : first * pct ≤ 10999 * 100 := Int.mul_le_mul hf.2 hp.2 hp.1 (by omega)
  have hok : recOk small (first :: zs) pct = true := by
    simp only [recOk, Bool.and_eq_true, decide_eq_true_eq]
    refine ⟨⟨⟨List.all_eq_true.2 fun x hx => inB_iff.2 ?_, inB_iff.2 (by omega)⟩, inB_iff.2 hp⟩, by simp; omega⟩
    rcases List.mem_cons.1 hx with rfl | hx
    · omega
    · have := hz x hx; omega
  have hsh : share (first :: zs) pct 0 = first * pct / 100 := by simp [share]
  have h0 : min (owed small (first :: zs) pct 0) (share (first :: zs) pct 0) = small := by rw [hsh]; simp only [owed]; omega
  have h1 : owed small (first :: zs) pct 1 = 0 := by
    show owed small (first :: zs) pct 0 - min (owed small (first :: zs) pct 0) (share (first :: zs) pct 0) = 0
    rw [h0]; simp [owed]
  refine ⟨hok, by rw [plan_at hok (by simp), h0], fun e => ?_, fun e => ?_, ?_⟩
  · rw [recoveredBy, if_pos hok, zeroFrom_yes (by simpa [owed] using e)]; rfl
  · rw [recoveredBy, if_pos hok, zeroFrom_no (by simpa [owed] using e)]
    rw [show (first :: zs).length = zs.length + 1 from rfl, zeroFrom_yes h1]; rfl
  · rw [waived, if_pos hok]
    have h2 := owed_mono hok 1 zs.length
    rw [show 1 + zs.length = (first :: zs).length by simp; omega, h1] at h2
    have h3 := owed_range hok (first :: zs).length
    omega

set_option maxHeartbeats 2000000 in
theorem lawNetMonths (A : Option Addr) (n c : Nat) (w : World) (hn : n ≤ 9223372036854775807) (hA : BytesAt w w.heap.size A n) :
    Calls Try.prog 9 #[.slice A n c] w fun e w' => e = .returned (.bool true) ∧ Same w w' := by
  by_cases hbig : n ≤ 1048576
  · go_enter Try.func9, Try.ntmps9
    go_wp2_with fail
    refine (big_no A n c _ hbig).mono ?_
    rintro e w0 ⟨rfl, rfl⟩
    go_wp2_with fail
    refine (drawRecovery_any A n c _ hbig hA).mono ?_
    rintro e w1 ⟨d, zs, p, ad, f, rfl, hv, ho1, hs1⟩
    obtain ⟨hd, ⟨hlen, hzr⟩, hp⟩ := hv
    have hI := ho1.ints
    clear ho1
    go_wp2_with fail
    refine (drawPlaces_any A n c _ hbig (hA.keep' hs1)).mono ?_
    rintro e w2 ⟨ps, D, g, rfl, hpl, ho2, hs2⟩
    obtain ⟨a, ha, ha0, ha1⟩ := hpl.get (k := 0) (by omega)
    obtain ⟨b, hb, hb0, hb1⟩ := hpl.get (k := 1) (by omega)
    obtain ⟨h, rfl, _⟩ := ho2.at_ ha
    have ca := ho2.cell ha
    have cb := ho2.cell hb
    have hgl := World.block_lt_of_cell? w2 _ ca
    have hl12 : (12 : Int) ≤ (ps.length : Int) := by have := hpl.1; omega
    replace hI := hI.same hs2
    have S2 := hs1.trans hs2
    have hsz := S2.size
    clear ha hb hpl ho2 hs1 hs2
    obtain ⟨q, hq⟩ : ∃ q, q = 1000 + a := ⟨_, rfl⟩
    have hq0 : 1000 ≤ q ∧ q ≤ 10999 := by omega
    have a0 : 0 ≤ q * p := Int.mul_nonneg (by omega) hp.1
    have a1 : q * p ≤ 10999 * 100 := Int.mul_le_mul hq0.2 hp.2 hp.1 (by omega)
    have hqp : (q * p) / 100 + 1 ≠ 0 := by omega
    have hS : 0 ≤ b % ((q * p) / 100 + 1) ∧ b % ((q * p) / 100 + 1) ≤ (q * p) / 100 := by
      have h1 := Int.emod_nonneg b hqp
      have h2 := Int.emod_lt_of_pos b (show 0 < (q * p) / 100 + 1 by omega)
      omega
    obtain ⟨s, hs⟩ : ∃ s, s = b % ((q * p) / 100 + 1) := ⟨_, rfl⟩
    rw [← hs] at hS
    obtain ⟨hok, hp0, hr0, hr1, hw⟩ := first_spec hq0 hp hlen hzr hS
    obtain ⟨R, hR⟩ : ∃ R, R = recoveredBy s (q :: zs) p := ⟨_, rfl⟩
    rw [← hR] at hr0 hr1
    have HR := Lib.hid hR
    have HW := Lib.hid hw
    obtain ⟨P, hP⟩ : ∃ P, P = plan s (q :: zs) p := ⟨_, rfl⟩
    have hPl : P.length = zs.length + 1 := by rw [hP, plan_yes hok, planTo_length]; rfl
    rw [← hP] at hp0
    have HP := Lib.hid hP
    have HP0 := Lib.hid hp0
    have HZR := Lib.hid hzr
    clear hP hp0 hw hR hok hzr
    have k1 : IntKind.i64.wrap (q * p) = q * p := IntWalk.i64_in _ (by omega)
    have hz2 : (q :: zs).length ≤ 9223372036854775807 := by simp; omega
    have hown0 : OwnI (w2.alloc (.cells #[.int .i64 (1000 + a)] 3)) w2.heap.size (.slice (some ⟨w2.heap.size, 0, none⟩) 1 1) [1000 + a] := World.ownsRow_lit _ _ 1 (Nat.le_refl _) (by unfold maxLen; omega) rfl
    go_wp2_with (at_builtin; refine wpList_of rfl fun _ hK => wp_appAllI _ (.tmp 27) (.tmp 28) rfl w2.heap.size _ [1000 + a] rfl hown0 ad f zs rfl (hI.same ((Same.refl _).alloc _)) (by simp; omega) (by simp) (fun v' w3 ho3 hup => hK _ _ ?_); (have hs3 := ((Same.refl w2).alloc (.cells #[.int .i64 (1000 + a)] 3)).upds hup (Nat.le_refl _)); (replace ca := (hs3.cell (p := ⟨h, 0, none⟩) hgl).trans ca); (replace cb := (hs3.cell (p := ⟨h, 1, none⟩) hgl).trans cb); (have S3 := S2.trans hs3); (clear hs3 hup hown0 S2 hI hgl); (rw [← hq] at ho3 ⊢); (obtain ⟨B, bc, rfl⟩ := ho3.form); (have hB : IntsAt _ B (q :: zs) := ho3.ints); clear ho3; (have HS := Lib.hid hs); (have HR0 := Lib.hid hr0); (have HR1 := Lib.hid hr1); (clear hs hr0 hr1 hq hK); (rw [show ([q] ++ zs).length = zs.length + 1 by simp]))
    rw [← HS.out]
    have hc := iPlan_any s B bc (q :: zs) p _ hz2 hB
    rw [List.length_cons] at hc
    refine hc.mono ?_
    clear hc
    rw [← HP.out]
    rintro e w4 ⟨P1, pc, rfl, hop, hs4⟩
    obtain ⟨b1, rfl, _⟩ := hop.at_ HP0.out
    have c0 := hop.cell HP0.out
    have hlP : P.length = zs.length + 1 := hPl
    rw [hPl]
    replace hB := hB.same hs4
    have S4 := S3.trans hs4
    clear hop hs4 S3
    have e0 : (((zs.length + 1 : Nat) : Int) != ((zs.length + 1 : Nat) : Int)) = false := by simp
    have e1 : (s != s) = false := by simp
    obtain ⟨e2, e3⟩ : ((s == 0) == (R == 0)) = true ∧ R ≤ 1 := by
      by_cases hs0 : s = 0
      · have hR := HR0.out hs0
        exact ⟨by simp [hs0, hR], by omega⟩
      · have hR := HR1.out hs0
        exact ⟨by simp [hs0, hR], by omega⟩
    go_wp2_with fail
    have hc := iRecoveredBy_any s B bc (q :: zs) p _ hz2 hB
    rw [List.length_cons] at hc
    refine hc.mono ?_
    clear hc
    rw [← HR.out]
    rintro e w5 ⟨rfl, hs5⟩
    go_wp2_with fail
    have hc := iWaived_any s B bc (q :: zs) p _ hz2 (hB.same hs5)
    rw [List.length_cons] at hc
    refine hc.mono ?_
    clear hc
    rw [HW.out]
    rintro e w6 ⟨rfl, hs6⟩
    go_wp2
    go_ret
    exact ⟨by first | rfl | (simp; done) | (simp; omega), (S4.trans hs5).trans hs6⟩
  · go_enter Try.func9, Try.ntmps9
    go_wp2_with (go_at_call 30; refine (big_yes A n c _ hn hbig).mono ?_; rintro e w' ⟨rfl, rfl⟩)
    go_ret
    exact ⟨rfl, Same.refl _⟩
end Go.Proofs.Ytmpeohmhkhhooaa
