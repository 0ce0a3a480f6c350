/-
  The law of a set's own laws.
-/
import Derived.Test.YtobdagjdhgjplaaSlF
set_option linter.unusedSimpArgs false
set_option linter.unusedVariables false
namespace Go.Proofs.Ytobdagjdhgjplaa
open Go Go.Sn Go.RowKit
-- NONE stH_none

set_option maxRecDepth 100000 in
set_option maxHeartbeats 16000000 in
theorem sleepLaws_call (W : World) (H : Heap) (a b : BitVec 8) (t : Int) :
    CallA Try.prog W 4 [.v (.int .u8 (a.toNat : Int)), .v (.int .u8 (b.toNat : Int)), .v (.int .i64 t)] H fun r H' => r = .v (.bool true) := by
  refine call_in Try.func4 rfl Try.ntmps4 (by simp) ?_
  have c0 := fun H => awake8_call W H
  have h1 := fun H => setWith_call W H a t
  have h2 := fun H => setWith_call W H (a ||| bitE t) t
  have h3 := fun H => setWithout_call W H a t
  have h4 := fun H => setWithout_call W H (a &&& ~~~ bitE t) t
  have h5 := fun H => setWithout_call W H (a ||| bitE t) t
  have h6 := fun H => setUnion_call W H a b
  have h7 := fun H => setUnion_call W H b a
  have h8 := fun H => setUnion_call W H a a
  have l1 := fun H => setLen_call W H (a ||| b)
  have l2 := fun H => setLen_call W H a
  have l3 := fun H => setLen_call W H b
  have a1 := fun H => setAll_call W H a
  have a2 := fun H => setAll_call W H b
  have ha8 := allB_len a 8
  have hb8 := allB_len b 8
  have o1 := fun H => setOf_call W H (allB a 8) (by omega)
  have o2 := fun H => setOf_call W H (allB b 8) (by omega)
  rw [with_with] at h2
  rw [wo_wo] at h4
  rw [with_wo] at h5
  rw [or_comm8 b a] at h7
  rw [or_self8] at h8
  rw [of_all] at o1 o2
  have hle := len_le a b
  have e1 : lenB a = (allB a 8).length := rfl
  have e2 : lenB b = (allB b 8).length := rfl
  have hw : IntKind.i64.wrap ((lenB a : Int) + (lenB b : Int)) = (lenB a : Int) + (lenB b : Int) := wrapP (by omega) (by omega)
  have hle' : (lenB (a ||| b) : Int) ≤ (lenB a : Int) + (lenB b : Int) := by omega
  clear e1 e2 hle ha8 hb8
  generalize a &&& ~~~ bitE t = w1 at *
  generalize a ||| bitE t = w2 at *
  generalize a ||| b = w3 at *
  repeat' (first
    | (with_reducible apply run_seq)
    | (with_reducible apply run_block)
    | (with_reducible apply run_inBlock)
    | (with_reducible apply run_skip)
    | (with_reducible apply run_exit rfl)
    | ((with_reducible apply run_go); simp only [go_sem, *])
    | ((with_reducible apply runO_skipF); (focus (simp only [go_sem, *]; rfl)); (focus rfl); (with_reducible apply runO_go); simp only [go_sem, *])
    | ((first | (with_reducible apply runA_and) | (with_reducible apply runO_and) | (with_reducible apply runD_and)); (focus (first | assumption | (simp only [go_sem, *]; done) | (simp only [go_sem, *]; assumption))); (try simp only [go_sem, *]))
    | ((with_reducible apply runO_callF known12); simp only [go_sem, *]; refine (c0 _).use ?_; (with_reducible apply runO_go); simp only [go_sem, *])
    | ((with_reducible apply run_ret Try.func4 res4 (H' := H)); (focus (simp only [go_sem, *]; rfl)); (focus trivial); (focus (repeat (first | assumption | exact Heap.sub_refl _ | refine Heap.sub_congr ?_ | refine Heap.sub_set ?_ (by assumption) | refine Heap.sub_set2 ?_ (by first | assumption | (simp only [*]; done) | (simp only [Heap.set_none', stH_none, ne_eq, *, not_false_eq_true, and_self]; done)))))))
  simp only [lapp_cons, lapp_nil]
  repeat' (first
    | (with_reducible apply run_seq)
    | (with_reducible apply run_block)
    | (with_reducible apply run_inBlock)
    | (with_reducible apply run_skip)
    | (with_reducible apply run_exit rfl)
    | ((with_reducible apply run_go); simp only [go_sem, *])
    | ((with_reducible apply runO_skipF); (focus (simp only [go_sem, *]; rfl)); (focus rfl); (with_reducible apply runO_go); simp only [go_sem, *])
    | ((first | (with_reducible apply runA_and) | (with_reducible apply runO_and) | (with_reducible apply runD_and)); (focus (first | assumption | (simp only [go_sem, *]; done) | (simp only [go_sem, *]; assumption))); (try simp only [go_sem, *]))
    | ((with_reducible apply runO_callF known12); simp only [go_sem, *]; refine (c0 _).use ?_; (with_reducible apply runO_go); simp only [go_sem, *])
    | ((with_reducible apply runO_callFG known17); (focus (simp only [go_sem, *]; rfl)); (focus (intro _; simp only [go_sem, *]; exact h1 _)); (with_reducible apply runO_go); simp only [go_sem, *])
    | ((with_reducible apply runO_callFG known17); (focus (simp only [go_sem, *]; rfl)); (focus (intro _; simp only [go_sem, *]; exact h2 _)); (with_reducible apply runO_go); simp only [go_sem, *])
    | ((with_reducible apply runO_callFG known18); (focus (simp only [go_sem, *]; rfl)); (focus (intro _; simp only [go_sem, *]; exact h3 _)); (with_reducible apply runO_go); simp only [go_sem, *])
    | ((with_reducible apply runO_callFG known18); (focus (simp only [go_sem, *]; rfl)); (focus (intro _; simp only [go_sem, *]; exact h4 _)); (with_reducible apply runO_go); simp only [go_sem, *])
    | ((with_reducible apply runO_callFG known18); (focus (simp only [go_sem, *]; rfl)); (focus (intro _; simp only [go_sem, *]; exact h5 _)); (with_reducible apply runO_go); simp only [go_sem, *])
    | ((with_reducible apply runO_callFG known16); (focus (simp only [go_sem, *]; rfl)); (focus (intro _; simp only [go_sem, *]; exact h6 _)); (with_reducible apply runO_go); simp only [go_sem, *])
    | ((with_reducible apply runO_callFG known16); (focus (simp only [go_sem, *]; rfl)); (focus (intro _; simp only [go_sem, *]; exact h7 _)); (with_reducible apply runO_go); simp only [go_sem, *])
    | ((with_reducible apply runO_callFG known16); (focus (simp only [go_sem, *]; rfl)); (focus (intro _; simp only [go_sem, *]; exact h8 _)); (with_reducible apply runO_go); simp only [go_sem, *])
    | ((with_reducible apply runO_callFG known22); (focus (simp only [go_sem, *]; rfl)); (focus (intro _; simp only [go_sem, *]; exact l1 _)); (with_reducible apply runO_go); simp only [go_sem, *])
    | ((with_reducible apply runO_callFG known22); (focus (simp only [go_sem, *]; rfl)); (focus (intro _; simp only [go_sem, *]; exact l2 _)); (with_reducible apply runO_go); simp only [go_sem, *])
    | ((with_reducible apply runO_callFG known22); (focus (simp only [go_sem, *]; rfl)); (focus (intro _; simp only [go_sem, *]; exact l3 _)); (with_reducible apply runO_go); simp only [go_sem, *])
    | ((with_reducible apply runO_callFG known21); (focus (simp only [go_sem, *]; rfl)); (focus (intro _; simp only [go_sem, *]; exact a1 _)); (with_reducible apply runO_go); simp only [go_sem, *])
    | ((with_reducible apply runO_callFG known21); (focus (simp only [go_sem, *]; rfl)); (focus (intro _; simp only [go_sem, *]; exact a2 _)); (with_reducible apply runO_go); simp only [go_sem, *])
    | ((with_reducible apply runO_callFG known19); (focus (simp only [go_sem, *]; rfl)); (focus (intro _; simp only [go_sem, *]; exact o1 _)); (with_reducible apply runO_go); simp only [go_sem, *])
    | ((with_reducible apply runO_callFG known19); (focus (simp only [go_sem, *]; rfl)); (focus (intro _; simp only [go_sem, *]; exact o2 _)); (with_reducible apply runO_go); simp only [go_sem, *])
    | ((with_reducible apply run_ret Try.func4 res4 (H' := H)); (focus (simp only [go_sem, *]; rfl)); (focus trivial); (focus (repeat (first | assumption | exact Heap.sub_refl _ | refine Heap.sub_congr ?_ | refine Heap.sub_set ?_ (by assumption) | refine Heap.sub_set2 ?_ (by first | assumption | (simp only [*]; done) | (simp only [Heap.set_none', stH_none, ne_eq, *, not_false_eq_true, and_self]; done)))))))
  rfl
end Go.Proofs.Ytobdagjdhgjplaa
