/-
  Contracts: the answers that the document fixes, of sets and who sleeps.
-/
import Derived.Test.YtobdagjdhgjplaaSlD
set_option linter.unusedSimpArgs false
set_option linter.unusedVariables false
namespace Go.Proofs.Ytobdagjdhgjplaa
open Go Go.Sn Go.RowKit
-- NONE stH_none

def q8 : Pg := ⟨1, 0, [[⟨1, 0, 0, 0⟩], [⟨1, 0, 0, 0⟩], [⟨2, 0, 0, 0⟩]]⟩
def B0 : St := ⟨q8, [⟨0, 1, 0, 0⟩, ⟨0, 1, 0, 0⟩, ⟨0, 1, 0, 0⟩], 0, 0, 0, 0, -1, -1⟩
theorem q8_ok : okN q8 1 = true := by decide
theorem B0_eq : newS q8 1 = B0 := by decide
theorem B0_q : chE B0 0#8 5#8 1 = 1#8 ∧ blkE B0 7#8 = true ∧ blkE B0 3#8 = false := by decide

set_option maxRecDepth 100000 in
set_option maxHeartbeats 8000000 in
theorem awake8_call (W : World) (H : Heap) : CallA Try.prog W 12 [] H fun r H' => r = .v (.bool true) ∧ H' = H := by
  refine call_in Try.func12 rfl Try.ntmps12 (by simp) ?_
  have o0 : OkSt B0 := by rw [← B0_eq]; exact okN_ok q8_ok
  have n1 : ∀ H, CallA Try.prog W 45 [.agg [.v (.int .i64 1), .v (.int .i64 0), .list [[.list [[.v (.int .i64 1), .v (.int .i64 0), .v (.int .i64 0), .v (.int .i64 0)]]], [.list [[.v (.int .i64 1), .v (.int .i64 0), .v (.int .i64 0), .v (.int .i64 0)]]], [.list [[.v (.int .i64 2), .v (.int .i64 0), .v (.int .i64 0), .v (.int .i64 0)]]]]], .v (.int .i64 1)] H (NewP q8 1 H) := fun H => stNew_call W H q8 1 (by decide)
  repeat' (first
    | (with_reducible apply run_seq)
    | (with_reducible apply run_block)
    | (with_reducible apply run_inBlock)
    | (with_reducible apply run_skip)
    | (with_reducible apply run_exit rfl)
    | ((with_reducible apply run_go); simp only [go_sem, *])
    | ((with_reducible apply runO_skipF); (focus (simp only [go_sem, *]; rfl)); (focus rfl); (with_reducible apply runO_go); simp only [go_sem, *])
    | ((first | (with_reducible apply runA_and) | (with_reducible apply runO_and) | (with_reducible apply runD_and)); (focus (first | assumption | (simp only [go_sem, *]; done) | (simp only [go_sem, *]; assumption))); (try simp only [go_sem, *]))
    | ((with_reducible apply runO_buildSlice); (focus (simp only [go_sem]; rfl)); (focus (simp only [go_sem]; rfl)); (focus (simp only [go_sem]; rfl)); (focus rfl); (focus rfl); (focus (simp only [go_sem, *]; done)); (focus (simp only [go_sem, *]; done)); (focus decide); (with_reducible apply runO_go); simp only [go_sem, *])
    | ((with_reducible apply runO_buildSliceG); (focus (simp only [go_sem, *]; rfl)); (focus (simp only [go_sem]; rfl)); (focus (simp only [go_sem]; rfl)); (focus (simp only [go_sem]; rfl)); (focus rfl); (focus rfl); (focus (simp only [go_sem, *]; done)); (focus (simp only [go_sem, *]; done)); (focus decide); (with_reducible apply runO_go); simp only [go_sem, *])
    | ((with_reducible apply run_ret Try.func12 res12 (H' := H)); (focus (simp only [go_sem, *]; rfl)); (focus trivial); (focus (repeat (first | assumption | exact Heap.sub_refl _ | refine Heap.sub_congr ?_ | refine Heap.sub_set ?_ (by assumption) | refine Heap.sub_set2 ?_ (by first | assumption | (simp only [*]; done) | (simp only [Heap.set_none', stH_none, ne_eq, *, not_false_eq_true, and_self]; done)))))))
  (with_reducible apply runO_callF known45); simp only [go_sem, *]
  refine (n1 _).mono (fun d1 H1 hh => ?_)
  rcases hh with ⟨_, l, hlb, hlc, hne, hcap, rfl, rfl⟩ | ⟨hno, _, _⟩
  rotate_left
  · exact absurd hno (by decide)
  rw [B0_eq]
  clear n1
  have hcap2 : 3 ≤ l.cap := hcap
  have at0 : AtP (stP H l B0) l B0 := stH_at hne hcap2
  have f1 : ∀ H, CallA Try.prog W 19 [.list [[.v (.int .i64 0)], [.v (.int .i64 2)], [.v (.int .i64 9)], [.v (.int .i64 (-1))]]] H fun r H' => r = .v (.int .u8 5) ∧ H' = H := fun H => by
    have h := setOf_call W H [0, 2, 9, -1] (by simp); rw [show ofB [0, 2, 9, -1] = 5#8 by decide] at h; exact h
  have f2 : ∀ H, CallA Try.prog W 19 [.list [[.v (.int .i64 0)], [.v (.int .i64 1)], [.v (.int .i64 2)]]] H fun r H' => r = .v (.int .u8 7) ∧ H' = H := fun H => by
    have h := setOf_call W H [0, 1, 2] (by simp); rw [show ofB [0, 1, 2] = 7#8 by decide] at h; exact h
  have f3 : ∀ H, CallA Try.prog W 19 [.list [[.v (.int .i64 2)]]] H fun r H' => r = .v (.int .u8 4) ∧ H' = H := fun H => by
    have h := setOf_call W H [2] (by simp); rw [show ofB [2] = 4#8 by decide] at h; exact h
  have f4 : ∀ H, CallA Try.prog W 19 [.list [[.v (.int .i64 1)]]] H fun r H' => r = .v (.int .u8 2) ∧ H' = H := fun H => by
    have h := setOf_call W H [1] (by simp); rw [show ofB [1] = 2#8 by decide] at h; exact h
  have f5 : ∀ H, CallA Try.prog W 19 [.list [[.v (.int .i64 0)], [.v (.int .i64 2)]]] H fun r H' => r = .v (.int .u8 5) ∧ H' = H := fun H => by
    have h := setOf_call W H [0, 2] (by simp); rw [show ofB [0, 2] = 5#8 by decide] at h; exact h
  have f6 : ∀ H, CallA Try.prog W 19 [.list [[.v (.int .i64 0)]]] H fun r H' => r = .v (.int .u8 1) ∧ H' = H := fun H => by
    have h := setOf_call W H [0] (by simp); rw [show ofB [0] = 1#8 by decide] at h; exact h
  have f7 : ∀ H, CallA Try.prog W 19 [.list [[.v (.int .i64 0)], [.v (.int .i64 1)]]] H fun r H' => r = .v (.int .u8 3) ∧ H' = H := fun H => by
    have h := setOf_call W H [0, 1] (by simp); rw [show ofB [0, 1] = 3#8 by decide] at h; exact h
  have g1 : ∀ H, CallA Try.prog W 22 [.v (.int .u8 5)] H fun r H' => r = .v (.int .i64 2) ∧ H' = H := fun H => by
    have h := setLen_call W H 5#8; rw [show lenB 5#8 = 2 by decide] at h; exact h
  have g2 : ∀ H, CallA Try.prog W 14 [.v (.int .u8 5), .v (.int .i64 2)] H fun r H' => r = .v (.bool true) ∧ H' = H := fun H => by
    have h := setHas_call W H 5#8 2; rw [show hasE 5#8 2 = true by decide] at h; exact h
  have g3 : ∀ H, CallA Try.prog W 14 [.v (.int .u8 5), .v (.int .i64 1)] H fun r H' => r = .v (.bool false) ∧ H' = H := fun H => by
    have h := setHas_call W H 5#8 1; rw [show hasE 5#8 1 = false by decide] at h; exact h
  have g4 : ∀ H, CallA Try.prog W 14 [.v (.int .u8 5), .v (.int .i64 (-1))] H fun r H' => r = .v (.bool false) ∧ H' = H := fun H => by
    have h := setHas_call W H 5#8 (-1); rw [show hasE 5#8 (-1) = false by decide] at h; exact h
  have g5 : ∀ H, CallA Try.prog W 17 [.v (.int .u8 5), .v (.int .i64 1)] H fun r H' => r = .v (.int .u8 7) ∧ H' = H := fun H => by
    have h := setWith_call W H 5#8 1; rw [show 5#8 ||| bitE 1 = 7#8 by decide] at h; exact h
  have g6 : ∀ H, CallA Try.prog W 18 [.v (.int .u8 5), .v (.int .i64 0)] H fun r H' => r = .v (.int .u8 4) ∧ H' = H := fun H => by
    have h := setWithout_call W H 5#8 0; rw [show 5#8 &&& ~~~ bitE 0 = 4#8 by decide] at h; exact h
  have g7 : ∀ H, CallA Try.prog W 21 [.v (.int .u8 5)] H fun r H' => r = .list [[.v (.int .i64 0)], [.v (.int .i64 2)]] ∧ H' = H := fun H => by
    have h := setAll_call W H 5#8; rw [show allB 5#8 8 = [0, 2] by decide] at h; exact h
  have g8 : ∀ H, CallA Try.prog W 20 [.list [[.v (.int .i64 0)], [.v (.int .i64 2)]], .list [[.v (.int .i64 0)], [.v (.int .i64 2)]]] H fun r H' => r = .v (.bool true) ∧ H' = H :=
    fun H => sameInts_call W H [0, 2] [0, 2] (by simp)
  have g9 : ∀ H, CallA Try.prog W 16 [.v (.int .u8 2), .v (.int .u8 5)] H fun r H' => r = .v (.int .u8 7) ∧ H' = H := fun H => by
    have h := setUnion_call W H 2#8 5#8; rw [show 2#8 ||| 5#8 = 7#8 by decide] at h; exact h
  have k1 : ∀ H', AtP H' l B0 → CallA Try.prog W 26 [.v (.pointer (some ⟨l.b, 0, none⟩)), .v (.int .u8 0), .v (.int .u8 5), .v (.int .i64 1)] H' fun r H'' => r = .v (.int .u8 1) ∧ H'' = H' := fun H' h' => by
    have h := child_call W H' l B0 h' o0 0#8 5#8 1; rw [B0_q.1] at h; exact h
  have k2 : ∀ H', AtP H' l B0 → CallA Try.prog W 28 [.v (.pointer (some ⟨l.b, 0, none⟩)), .v (.int .u8 7)] H' fun r H'' => r = .v (.bool true) ∧ H'' = H' := fun H' h' => by
    have h := blocked_call W H' l B0 h' o0 7#8; rw [B0_q.2.1] at h; exact h
  have k3 : ∀ H', AtP H' l B0 → CallA Try.prog W 28 [.v (.pointer (some ⟨l.b, 0, none⟩)), .v (.int .u8 3)] H' fun r H'' => r = .v (.bool false) ∧ H'' = H' := fun H' h' => by
    have h := blocked_call W H' l B0 h' o0 3#8; rw [B0_q.2.2] at h; exact h
  have k4 : ∀ H, CallA Try.prog W 28 [.v (.pointer none), .v (.int .u8 7)] H fun r H' => r = .v (.bool false) ∧ H' = H := fun H => nilBlocked_call W H 7#8
  have hsub : H.sub (stP H l B0) := stH_subH hlb hlc
  clear hlb hlc hne hcap hcap2 o0
  generalize stP H l B0 = V at *
  (with_reducible apply runO_go); simp only [go_sem, *]
  repeat' (first
    | (with_reducible apply run_seq)
    | (with_reducible apply run_block)
    | (with_reducible apply run_inBlock)
    | (with_reducible apply run_skip)
    | (with_reducible apply run_exit rfl)
    | ((with_reducible apply run_go); simp only [go_sem, *])
    | ((with_reducible apply runO_skipF); (focus (simp only [go_sem, *]; rfl)); (focus rfl); (with_reducible apply runO_go); simp only [go_sem, *])
    | ((first | (with_reducible apply runA_and) | (with_reducible apply runO_and) | (with_reducible apply runD_and)); (focus (first | assumption | (simp only [go_sem, *]; done) | (simp only [go_sem, *]; assumption))); (try simp only [go_sem, *]))
    | ((with_reducible apply runO_callF known19); simp only [go_sem, *]; refine (f1 _).use ?_; (with_reducible apply runO_go); simp only [go_sem, *])
    | ((with_reducible apply runO_callFG known19); (focus (simp only [go_sem, *]; rfl)); (focus (intro _; simp only [go_sem, *]; exact f1 _)); (with_reducible apply runO_go); simp only [go_sem, *])
    | ((with_reducible apply runO_buildSlice); (focus (simp only [go_sem]; rfl)); (focus (simp only [go_sem]; rfl)); (focus (simp only [go_sem]; rfl)); (focus rfl); (focus rfl); (focus (simp only [go_sem, *]; done)); (focus (simp only [go_sem, *]; done)); (focus decide); (with_reducible apply runO_go); simp only [go_sem, *])
    | ((with_reducible apply runO_buildSliceG); (focus (simp only [go_sem, *]; rfl)); (focus (simp only [go_sem]; rfl)); (focus (simp only [go_sem]; rfl)); (focus (simp only [go_sem]; rfl)); (focus rfl); (focus rfl); (focus (simp only [go_sem, *]; done)); (focus (simp only [go_sem, *]; done)); (focus decide); (with_reducible apply runO_go); simp only [go_sem, *])
    | ((with_reducible apply run_ret Try.func12 res12 (H' := H)); (focus (simp only [go_sem, *]; rfl)); (focus trivial); (focus (repeat (first | assumption | exact Heap.sub_refl _ | refine Heap.sub_congr ?_ | refine Heap.sub_set ?_ (by assumption) | refine Heap.sub_set2 ?_ (by first | assumption | (simp only [*]; done) | (simp only [Heap.set_none', stH_none, ne_eq, *, not_false_eq_true, and_self]; done)))))))
  simp only [lapp_cons, lapp_nil]
  clear f1
  repeat' (first
    | (with_reducible apply run_seq)
    | (with_reducible apply run_block)
    | (with_reducible apply run_inBlock)
    | (with_reducible apply run_skip)
    | (with_reducible apply run_exit rfl)
    | ((with_reducible apply run_go); simp only [go_sem, *])
    | ((with_reducible apply runO_skipF); (focus (simp only [go_sem, *]; rfl)); (focus rfl); (with_reducible apply runO_go); simp only [go_sem, *])
    | ((first | (with_reducible apply runA_and) | (with_reducible apply runO_and) | (with_reducible apply runD_and)); (focus (first | assumption | (simp only [go_sem, *]; done) | (simp only [go_sem, *]; assumption))); (try simp only [go_sem, *]))
    | ((with_reducible apply runO_callF known19); simp only [go_sem, *]; refine (f2 _).use ?_; (with_reducible apply runO_go); simp only [go_sem, *])
    | ((with_reducible apply runO_callFG known19); (focus (simp only [go_sem, *]; rfl)); (focus (intro _; simp only [go_sem, *]; exact f2 _)); (with_reducible apply runO_go); simp only [go_sem, *])
    | ((with_reducible apply runO_callF known19); simp only [go_sem, *]; refine (f3 _).use ?_; (with_reducible apply runO_go); simp only [go_sem, *])
    | ((with_reducible apply runO_callFG known19); (focus (simp only [go_sem, *]; rfl)); (focus (intro _; simp only [go_sem, *]; exact f3 _)); (with_reducible apply runO_go); simp only [go_sem, *])
    | ((with_reducible apply runO_callF known19); simp only [go_sem, *]; refine (f4 _).use ?_; (with_reducible apply runO_go); simp only [go_sem, *])
    | ((with_reducible apply runO_callFG known19); (focus (simp only [go_sem, *]; rfl)); (focus (intro _; simp only [go_sem, *]; exact f4 _)); (with_reducible apply runO_go); simp only [go_sem, *])
    | ((with_reducible apply runO_callF known19); simp only [go_sem, *]; refine (f5 _).use ?_; (with_reducible apply runO_go); simp only [go_sem, *])
    | ((with_reducible apply runO_callFG known19); (focus (simp only [go_sem, *]; rfl)); (focus (intro _; simp only [go_sem, *]; exact f5 _)); (with_reducible apply runO_go); simp only [go_sem, *])
    | ((with_reducible apply runO_callF known19); simp only [go_sem, *]; refine (f6 _).use ?_; (with_reducible apply runO_go); simp only [go_sem, *])
    | ((with_reducible apply runO_callFG known19); (focus (simp only [go_sem, *]; rfl)); (focus (intro _; simp only [go_sem, *]; exact f6 _)); (with_reducible apply runO_go); simp only [go_sem, *])
    | ((with_reducible apply runO_callF known19); simp only [go_sem, *]; refine (f7 _).use ?_; (with_reducible apply runO_go); simp only [go_sem, *])
    | ((with_reducible apply runO_callFG known19); (focus (simp only [go_sem, *]; rfl)); (focus (intro _; simp only [go_sem, *]; exact f7 _)); (with_reducible apply runO_go); simp only [go_sem, *])
    | ((with_reducible apply runO_callFG known22); (focus (simp only [go_sem, *]; rfl)); (focus (intro _; simp only [go_sem, *]; exact g1 _)); (with_reducible apply runO_go); simp only [go_sem, *])
    | ((with_reducible apply runO_callFG known14); (focus (simp only [go_sem, *]; rfl)); (focus (intro _; simp only [go_sem, *]; exact g2 _)); (with_reducible apply runO_go); simp only [go_sem, *])
    | ((with_reducible apply runO_callFG known14); (focus (simp only [go_sem, *]; rfl)); (focus (intro _; simp only [go_sem, *]; exact g3 _)); (with_reducible apply runO_go); simp only [go_sem, *])
    | ((with_reducible apply runO_callFG known14); (focus (simp only [go_sem, *]; rfl)); (focus (intro _; simp only [go_sem, *]; exact g4 _)); (with_reducible apply runO_go); simp only [go_sem, *])
    | ((with_reducible apply runO_callFG known17); (focus (simp only [go_sem, *]; rfl)); (focus (intro _; simp only [go_sem, *]; exact g5 _)); (with_reducible apply runO_go); simp only [go_sem, *])
    | ((with_reducible apply runO_callFG known18); (focus (simp only [go_sem, *]; rfl)); (focus (intro _; simp only [go_sem, *]; exact g6 _)); (with_reducible apply runO_go); simp only [go_sem, *])
    | ((with_reducible apply runO_callFG known21); (focus (simp only [go_sem, *]; rfl)); (focus (intro _; simp only [go_sem, *]; exact g7 _)); (with_reducible apply runO_go); simp only [go_sem, *])
    | ((with_reducible apply runO_callFG known20); (focus (simp only [go_sem, *]; rfl)); (focus (intro _; simp only [go_sem, *]; exact g8 _)); (with_reducible apply runO_go); simp only [go_sem, *])
    | ((with_reducible apply runO_callFG known16); (focus (simp only [go_sem, *]; rfl)); (focus (intro _; simp only [go_sem, *]; exact g9 _)); (with_reducible apply runO_go); simp only [go_sem, *])
    | ((with_reducible apply runO_callFG known26); (focus (simp only [go_sem, *]; rfl)); (focus (intro _; simp only [go_sem, *]; exact k1 _ (at0.mono (by (repeat (first | assumption | exact Heap.sub_refl _ | refine Heap.sub_congr ?_ | refine Heap.sub_set ?_ (by assumption) | refine Heap.sub_set2 ?_ (by first | assumption | (simp only [*]; done) | (simp only [Heap.set_none', stH_none, ne_eq, *, not_false_eq_true, and_self]; done)))); done)))); (with_reducible apply runO_go); simp only [go_sem, *])
    | ((with_reducible apply runO_callFG known28); (focus (simp only [go_sem, *]; rfl)); (focus (intro _; simp only [go_sem, *]; exact k2 _ (at0.mono (by (repeat (first | assumption | exact Heap.sub_refl _ | refine Heap.sub_congr ?_ | refine Heap.sub_set ?_ (by assumption) | refine Heap.sub_set2 ?_ (by first | assumption | (simp only [*]; done) | (simp only [Heap.set_none', stH_none, ne_eq, *, not_false_eq_true, and_self]; done)))); done)))); (with_reducible apply runO_go); simp only [go_sem, *])
    | ((with_reducible apply runO_callFG known28); (focus (simp only [go_sem, *]; rfl)); (focus (intro _; simp only [go_sem, *]; exact k3 _ (at0.mono (by (repeat (first | assumption | exact Heap.sub_refl _ | refine Heap.sub_congr ?_ | refine Heap.sub_set ?_ (by assumption) | refine Heap.sub_set2 ?_ (by first | assumption | (simp only [*]; done) | (simp only [Heap.set_none', stH_none, ne_eq, *, not_false_eq_true, and_self]; done)))); done)))); (with_reducible apply runO_go); simp only [go_sem, *])
    | ((with_reducible apply runO_callFG known28); (focus (simp only [go_sem, *]; rfl)); (focus (intro _; simp only [go_sem, *]; exact k4 _)); (with_reducible apply runO_go); simp only [go_sem, *])
    | ((with_reducible apply runO_buildSlice); (focus (simp only [go_sem]; rfl)); (focus (simp only [go_sem]; rfl)); (focus (simp only [go_sem]; rfl)); (focus rfl); (focus rfl); (focus (simp only [go_sem, *]; done)); (focus (simp only [go_sem, *]; done)); (focus decide); (with_reducible apply runO_go); simp only [go_sem, *])
    | ((with_reducible apply runO_buildSliceG); (focus (simp only [go_sem, *]; rfl)); (focus (simp only [go_sem]; rfl)); (focus (simp only [go_sem]; rfl)); (focus (simp only [go_sem]; rfl)); (focus rfl); (focus rfl); (focus (simp only [go_sem, *]; done)); (focus (simp only [go_sem, *]; done)); (focus decide); (with_reducible apply runO_go); simp only [go_sem, *])
    | ((with_reducible apply run_ret Try.func12 res12 (H' := H)); (focus (simp only [go_sem, *]; rfl)); (focus trivial); (focus (repeat (first | assumption | exact Heap.sub_refl _ | refine Heap.sub_congr ?_ | refine Heap.sub_set ?_ (by assumption) | refine Heap.sub_set2 ?_ (by first | assumption | (simp only [*]; done) | (simp only [Heap.set_none', stH_none, ne_eq, *, not_false_eq_true, and_self]; done)))))))
  exact ⟨rfl, rfl⟩
end Go.Proofs.Ytobdagjdhgjplaa
