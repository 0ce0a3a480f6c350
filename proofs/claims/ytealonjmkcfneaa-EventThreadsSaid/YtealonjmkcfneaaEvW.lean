/-
  Contracts: the answers that the document fixes, of events.
-/
import Derived.Test.YtealonjmkcfneaaEvP
set_option linter.unusedSimpArgs false
set_option linter.unusedVariables false
namespace Go.Proofs.Ytealonjmkcfneaa
open Go Go.Sn Go.RowKit


theorem awake_call (W : World) (H : Heap) : CallA Try.prog W 33 [] H fun r H' => r = .v (.bool true) ∧ H' = H := by
  refine call_in Try.func33 rfl Try.ntmps33 (by simp) ?_
  have p1 : ∀ H : Heap, CallA Try.prog W 43 [.list [[.v (.int .i64 0), .v (.int .i64 2), .v (.int .i64 1), .v (.bool false)], [.v (.int .i64 1), .v (.int .i64 3), .v (.int .i64 1), .v (.bool false)]]] H fun r H' => r = .v (.string (strL [40, 45])) ∧ H' = H :=
    fun H => print_call W H [⟨0, 2, 1, false⟩, ⟨1, 3, 1, false⟩] (by simp)
  have r1 : ∀ H : Heap, CallA Try.prog W 42 [.v (.string (strL [40, 45]))] H fun r H' => r = .tup [.list (evsC [⟨0, 2, 1, false⟩, ⟨1, 3, 1, false⟩]), .v (.int .i64 0)] ∧ H' = H :=
    fun H => read_call W H [40, 45] (by simp)
  have r2 : ∀ H : Heap, CallA Try.prog W 42 [.v (.string { data := #[0] })] H fun r H' => r = .tup [.list [], .v (.int .i64 3)] ∧ H' = H :=
    fun H => read_call W H [0] (by simp)
  have d1 : ∀ H : Heap, CallA Try.prog W 34 [.agg [.v (.int .i64 0), .v (.int .i64 2), .v (.int .i64 1), .v (.bool false)], .agg [.v (.int .i64 1), .v (.int .i64 3), .v (.int .i64 1), .v (.bool false)]] H fun r H' => r = .v (.bool true) ∧ H' = H :=
    fun H => dep_call W H ⟨0, 2, 1, false⟩ ⟨1, 3, 1, false⟩
  have d2 : ∀ H : Heap, CallA Try.prog W 34 [.agg [.v (.int .i64 0), .v (.int .i64 2), .v (.int .i64 1), .v (.bool false)], .agg [.v (.int .i64 1), .v (.int .i64 2), .v (.int .i64 1), .v (.bool false)]] H fun r H' => r = .v (.bool false) ∧ H' = H :=
    fun H => dep_call W H ⟨0, 2, 1, false⟩ ⟨1, 2, 1, false⟩
  have d3 : ∀ H : Heap, CallA Try.prog W 34 [.agg [.v (.int .i64 0), .v (.int .i64 2), .v (.int .i64 1), .v (.bool false)], .agg [.v (.int .i64 0), .v (.int .i64 0), .v (.int .i64 0), .v (.bool false)]] H fun r H' => r = .v (.bool true) ∧ H' = H :=
    fun H => dep_call W H ⟨0, 2, 1, false⟩ ⟨0, 0, 0, false⟩
  have g1 : ∀ H : Heap, CallA Try.prog W 44 [.agg [.v (.int .i64 1), .v (.int .i64 3), .v (.int .i64 1), .v (.bool false)]] H fun r H' => r = .v (.bool true) ∧ H' = H :=
    fun H => right_call W H ⟨1, 3, 1, false⟩
  have g2 : ∀ H : Heap, CallA Try.prog W 44 [.agg [.v (.int .i64 0), .v (.int .i64 0), .v (.int .i64 0), .v (.bool false)]] H fun r H' => r = .v (.bool false) ∧ H' = H :=
    fun H => right_call W H ⟨0, 0, 0, false⟩
  have t1 : ∀ H : Heap, CallA Try.prog W 45 [.list [[.v (.int .i64 1), .v (.int .i64 3), .v (.int .i64 1), .v (.bool false)], [.v (.int .i64 0), .v (.int .i64 2), .v (.int .i64 1), .v (.bool false)]]] H fun r H' => r = .list [[.v (.int .i64 1)], [.v (.int .i64 0)]] ∧ H' = H :=
    fun H => threads_call W H [⟨1, 3, 1, false⟩, ⟨0, 2, 1, false⟩] (by simp)
  have s1 : ∀ H : Heap, CallA Try.prog W 28 [.list [[.v (.int .i64 1)], [.v (.int .i64 0)]], .list [[.v (.int .i64 1)], [.v (.int .i64 0)]]] H fun r H' => r = .v (.bool true) ∧ H' = H :=
    fun H => sameInts_call W H [1, 0] [1, 0] (by simp)
  repeat' (first
    | (with_reducible apply run_seq)
    | (with_reducible apply run_block)
    | (with_reducible apply run_inBlock)
    | (with_reducible apply run_skip)
    | (with_reducible apply run_exit rfl)
    | ((with_reducible apply run_go); simp only [go_sem, *])
    | ((with_reducible apply runO_alloc); (focus (simp only [go_sem, *]; rfl)); intro pb hpb; have hfb := Heap.ne_of_none hpb; (try simp only [Heap.set_none'] at hpb); (with_reducible apply runO_go); simp only [go_sem, *])
    | ((with_reducible apply runO_store); (focus (simp only [go_sem]; rfl)); (focus (simp only [go_sem, *]; rfl)); (focus (simp only [go_sem, *]; rfl)); (focus (simp only [go_sem, *]; done)); (focus (simp only [go_sem, *]; done)); (focus (simp only [go_sem, *]; done)); (with_reducible apply runO_go); simp only [go_sem, *, Heap.set_set])
    | ((with_reducible apply runO_skipF); (focus (simp only [go_sem, *]; rfl)); (focus rfl); (with_reducible apply runO_go); simp only [go_sem, *])
    | ((first | (with_reducible apply runA_and) | (with_reducible apply runO_and) | (with_reducible apply runD_and)); (focus (first | assumption | (simp only [go_sem, *]; done) | (simp only [go_sem, *]; assumption))); (try simp only [go_sem, *]))
    | ((with_reducible apply runO_buildSlice); (focus (simp only [go_sem]; rfl)); (focus (simp only [go_sem]; rfl)); (focus (simp only [go_sem]; rfl)); (focus rfl); (focus rfl); (focus (simp only [go_sem, *]; done)); (focus (simp only [go_sem, *]; done)); (focus decide); (with_reducible apply runO_go); simp only [go_sem, *])
    | ((with_reducible apply runO_buildSliceG); (focus (simp only [go_sem, *]; rfl)); (focus (simp only [go_sem]; rfl)); (focus (simp only [go_sem]; rfl)); (focus (simp only [go_sem]; rfl)); (focus rfl); (focus rfl); (focus (simp only [go_sem, *]; done)); (focus (simp only [go_sem, *]; done)); (focus decide); (with_reducible apply runO_go); simp only [go_sem, *])
    | ((with_reducible apply runO_callF known43); simp only [go_sem, *]; refine (p1 _).use ?_; (with_reducible apply runO_go); simp only [go_sem, *])
    | ((with_reducible apply runO_callFG known43); (focus (simp only [go_sem, *]; rfl)); (focus (intro _; simp only [go_sem, *]; exact p1 _)); (with_reducible apply runO_go); simp only [go_sem, *])
    | ((with_reducible apply runO_callF known42); simp only [go_sem, *]; refine (r1 _).use ?_; (with_reducible apply runO_go); simp only [go_sem, *])
    | ((with_reducible apply runO_callF known42); simp only [go_sem, *]; refine (r2 _).use ?_; (with_reducible apply runO_go); simp only [go_sem, *])
    | ((with_reducible apply runO_callF known34); simp only [go_sem, *]; refine (d1 _).use ?_; (with_reducible apply runO_go); simp only [go_sem, *])
    | ((with_reducible apply runO_callFG known34); (focus (simp only [go_sem, *]; rfl)); (focus (intro _; simp only [go_sem, *]; exact d1 _)); (with_reducible apply runO_go); simp only [go_sem, *])
    | ((with_reducible apply runO_callF known34); simp only [go_sem, *]; refine (d2 _).use ?_; (with_reducible apply runO_go); simp only [go_sem, *])
    | ((with_reducible apply runO_callFG known34); (focus (simp only [go_sem, *]; rfl)); (focus (intro _; simp only [go_sem, *]; exact d2 _)); (with_reducible apply runO_go); simp only [go_sem, *])
    | ((with_reducible apply runO_callF known34); simp only [go_sem, *]; refine (d3 _).use ?_; (with_reducible apply runO_go); simp only [go_sem, *])
    | ((with_reducible apply runO_callFG known34); (focus (simp only [go_sem, *]; rfl)); (focus (intro _; simp only [go_sem, *]; exact d3 _)); (with_reducible apply runO_go); simp only [go_sem, *])
    | ((with_reducible apply runO_callFG known44); (focus (simp only [go_sem, *]; rfl)); (focus (intro _; simp only [go_sem, *]; exact g1 _)); (with_reducible apply runO_go); simp only [go_sem, *])
    | ((with_reducible apply runO_callFG known44); (focus (simp only [go_sem, *]; rfl)); (focus (intro _; simp only [go_sem, *]; exact g2 _)); (with_reducible apply runO_go); simp only [go_sem, *])
    | ((with_reducible apply runO_callFG known45); (focus (simp only [go_sem, *]; rfl)); (focus (intro _; simp only [go_sem, *]; exact t1 _)); (with_reducible apply runO_go); simp only [go_sem, *])
    | ((with_reducible apply runO_callFG known28); (focus (simp only [go_sem, *]; rfl)); (focus (intro _; simp only [go_sem, *]; exact s1 _)); (with_reducible apply runO_go); simp only [go_sem, *])
    | ((with_reducible apply run_ret Try.func33 res33 (H' := H)); (focus (simp only [go_sem, *]; rfl)); (focus trivial); (focus (repeat (first | assumption | exact Heap.sub_refl _ | refine Heap.sub_congr ?_ | refine Heap.sub_set ?_ (by assumption) | refine Heap.sub_set2 ?_ (by first | assumption | (simp only [*]; done) | (simp only [Heap.set_none', ne_eq, *, not_false_eq_true, and_self]; done)))))))
  exact ⟨by simp [tupA], rfl⟩
end Go.Proofs.Ytealonjmkcfneaa
