/-
  slices.Clone at postings.
-/
import Derived.Test.YthelclibokkdnaaLedger
import Derived.Test.YthelclibokkdnaaFound
import Derived.Test.YthelclibokkdnaaCut
import Derived.BigQuiet
import Derived.Deep.Cut
namespace Go.Proofs.Ythelclibokkdnaa
open Go.RowKit

set_option maxHeartbeats 400000 in
theorem clonePosting_any (A : Option Addr) (c : Nat) (L : List TPosting) (w : World) (hz : L.length ≤ 1000000000) (hA : AtPosting w A L) :
    Calls Try.prog 73 #[.slice A L.length c] w (RetR 25 4 cPosting w L) := by
  have qT : ∀ (w : World) (a : Option Addr) (n c n' c' : Nat), (binOp .eql 36 (.slice a n c) (.slice none n' c')).run Try.prog w = .ok (.bool a.isNone) w := fun w a n c n' c' => Lib.run_eql_slice_nil w 36 25 a n c n' c' Try.underlying36
  rcases A with _ | ad
  · have hL : L = [] := by
      rcases hA with h | ⟨b, off, h, _⟩
      · exact h
      · simp at h
    subst hL
    go_enter Try.func73, Try.ntmps73
    go_wp2
    go_ret
    exact RetR.of (OwnR.nil _ _ _ _ _) (Same.refl w)
  · go_enter Try.func73, Try.ntmps73
    go_wp2_with (at_builtin; refine wpList_of rfl fun _ hK => wp_appAll _ (.tmp 5) (.tmp 6) 36 rfl (.agg #[.int .i64 0, .int .i64 0, .int .i64 0, .int .i64 0]) 32 Try.underlying36 Try.infoPosting rfl (by decide) cPosting_len cPosting_one w.heap.size _ [] rfl (OwnR.empty _ _ _ _ (Nat.le_refl _)) ad c L rfl (hA.same ((Same.refl w).alloc _)) (by simpa using hz) (by decide) (by simp) (fun v' w1 ho1 hup => hK _ _ ?_))
    rw [List.nil_append] at ho1
    have hs1 := ((Same.refl w).alloc _).upds hup (Nat.le_refl _)
    clear hup
    go_wp2
    go_ret
    exact RetR.of ho1 hs1
end Go.Proofs.Ythelclibokkdnaa
