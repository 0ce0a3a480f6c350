/-
  The laws of sets.
-/
import Derived.Test.YtobdagjdhgjplaaSlF
set_option linter.unusedSimpArgs false
set_option linter.unusedVariables false
namespace Go.Proofs.Ytobdagjdhgjplaa
open Go Go.Sn Go.RowKit
-- NONE stH_none

attribute [go_sem] lapp_cons lapp_nil
set_option maxRecDepth 100000 in
set_option maxHeartbeats 16000000 in
theorem sleepSets_call (W : World) (H : Heap) (a b : BitVec 8) (t : Int) (list : List Int) :
    CallA Try.prog W 3 [.v (.int .u8 (a.toNat : Int)), .v (.int .u8 (b.toNat : Int)), .v (.int .i64 t), .list (intsC list)] H fun r H' => r = .v (.bool true) := by
  refine call_in Try.func3 rfl Try.ntmps3 (by simp) ?_
  have c0 := fun H => awake8_call W H
  by_cases hl : list.length ≤ 50
  · have hl' : ¬ (50 : Int) < (list.length : Int) := by omega
    have wa : IntKind.i64.wrap (a.toNat : Int) = (a.toNat : Int) := by have := a.isLt; exact wrapP (by omega) (by omega)
    have wb : IntKind.i64.wrap (b.toNat : Int) = (b.toNat : Int) := by have := b.isLt; exact wrapP (by omega) (by omega)
    have c1 := fun H => bits_call W H a
    have c2 := fun H => bits_call W H b
    have ha8 := allB_len a 8
    have hb8 := allB_len b 8
    repeat' (first
    | (with_reducible apply run_seq)
    | (with_reducible apply run_block)
    | (with_reducible apply run_inBlock)
    | (with_reducible apply run_skip)
    | (with_reducible apply run_exit rfl)
    | ((with_reducible apply run_go); simp only [go_sem, *])
    | ((with_reducible apply run_cond_t); (focus (simp only [go_sem, *]; done)))
    | ((with_reducible apply run_cond_f); (focus (simp only [go_sem, *]; done)))
    | ((with_reducible apply run_cond); (focus (simp only [go_sem, *]; rfl)); (all_goals intro _))
    | ((with_reducible apply runO_skipF); (focus (simp only [go_sem, *]; rfl)); (focus rfl); (with_reducible apply runO_go); simp only [go_sem, *])
    | ((first | (with_reducible apply runA_and) | (with_reducible apply runO_and) | (with_reducible apply runD_and)); (focus (first | assumption | (simp only [go_sem, *]; done) | (simp only [go_sem, *]; assumption))); (try simp only [go_sem, *]))
    | ((with_reducible apply runO_callF known12); simp only [go_sem, *]; refine (c0 _).use ?_; (with_reducible apply runO_go); simp only [go_sem, *])
      | ((with_reducible apply runO_callF known13); simp only [go_sem, *]; refine (c1 _).use ?_; (with_reducible apply runO_go); simp only [go_sem, *])
      | ((with_reducible apply runO_callF known13); simp only [go_sem, *]; refine (c2 _).use ?_; (with_reducible apply runO_go); simp only [go_sem, *])
    | ((with_reducible apply run_ret Try.func3 res3 (H' := H)); (focus (simp only [go_sem, *]; rfl)); (focus trivial); (focus (repeat (first | assumption | exact Heap.sub_refl _ | refine Heap.sub_congr ?_ | refine Heap.sub_set ?_ (by assumption) | refine Heap.sub_set2 ?_ (by first | assumption | (simp only [*]; done) | (simp only [Heap.set_none', stH_none, ne_eq, *, not_false_eq_true, and_self]; done)))))))
    clear c0 c1 c2
    refine run_loop (fun nz ez Hz => ∃ (k : Nat), k ≤ 8 ∧ nz = 8 - k ∧ ez 2 = .v (.int .i64 t) ∧ ez 3 = .list (intsC list) ∧ ez 9 = .v (.int .u8 (a.toNat : Int)) ∧ ez 10 = .v (.int .u8 (b.toNat : Int)) ∧ ez 11 = .list (intsC (allB a 8)) ∧ ez 12 = .list (intsC (allB b 8)) ∧ ez 30 = .v (.int .i64 (k : Int)) ∧ H = Hz) (8)
        ⟨0, Nat.zero_le _, rfl, (by simp only [go_sem, *]), (by simp only [go_sem, *]), (by simp only [go_sem, *]), (by simp only [go_sem, *]), (by simp only [go_sem, *]), (by simp only [go_sem, *]), (by simp only [go_sem] <;> rfl), rfl⟩ ?_
    rintro nz ez Hz ih ⟨k, zk, rfl, zs2, zs3, zs9, zs10, zs11, zs12, zs30, rfl⟩
    have IHz : Hid _ := ih
    clear ih
    by_cases hlt : k < 8
    · have hw := wrap_succ (k := k) (by omega)
      have hlt' : (k : Int) < 8 := by omega
      have d1 := fun H => setHas_call W H a (k : Int)
      have d2 := fun H => in_call W H (allB a 8) (k : Int) (by omega)
      have d3 := fun H => in_call W H (allB b 8) (k : Int) (by omega)
      have d4 := fun H => setUnion_call W H a b
      have d5 := fun H => setHas_call W H (a ||| b) (k : Int)
      have d6 := fun H => setWith_call W H a t
      have d7 := fun H => setHas_call W H (a ||| bitE t) (k : Int)
      have d8 := fun H => setWithout_call W H a t
      have d9 := fun H => setHas_call W H (a &&& ~~~ bitE t) (k : Int)
      have e1 := fun H => setOf_call W H list (by omega)
      have e2 := fun H => setHas_call W H (ofB list) (k : Int)
      have e3 := fun H => in_call W H list (k : Int) (by omega)
      rw [in_allB] at d2 d3
      rw [has_or] at d5 d7
      rw [has_not] at d9
      rw [has_of _ hlt] at e2
      rw [has_one t hlt] at d7 d9
      generalize hasE a (k : Int) = x1 at *
      generalize hasE b (k : Int) = x2 at *
      generalize decide ((k : Int) ∈ list) = x3 at *
      by_cases hkt : (k : Int) = t
      · subst hkt
        rw [decide_eq_true rfl] at d7 d9
        cases x1 <;> cases x2 <;> cases x3
        all_goals (repeat' (first
    | (with_reducible apply run_seq)
    | (with_reducible apply run_block)
    | (with_reducible apply run_inBlock)
    | (with_reducible apply run_skip)
    | (with_reducible apply run_exit rfl)
    | ((with_reducible apply run_go); simp only [go_sem, *])
    | ((with_reducible apply run_cond_t); (focus (simp only [go_sem, *]; done)))
    | ((with_reducible apply run_cond_f); (focus (simp only [go_sem, *]; done)))
    | ((with_reducible apply run_cond); (focus (simp only [go_sem, *]; rfl)); (all_goals intro _))
    | ((with_reducible apply runO_skipF); (focus (simp only [go_sem, *]; rfl)); (focus rfl); (with_reducible apply runO_go); simp only [go_sem, *])
    | ((first | (with_reducible apply runA_and) | (with_reducible apply runO_and) | (with_reducible apply runD_and)); (focus (first | assumption | (simp only [go_sem, *]; done) | (simp only [go_sem, *]; assumption))); (try simp only [go_sem, *]))
    | ((with_reducible apply runO_callF known14); simp only [go_sem, *]; refine (d1 _).use ?_; (with_reducible apply runO_go); simp only [go_sem, *])
    | ((with_reducible apply runO_callFG known14); (focus (simp only [go_sem, *]; rfl)); (focus (intro _; simp only [go_sem, *]; exact d1 _)); (with_reducible apply runO_go); simp only [go_sem, *])
          | ((with_reducible apply runO_callF known14); simp only [go_sem, *]; refine (d5 _).use ?_; (with_reducible apply runO_go); simp only [go_sem, *])
    | ((with_reducible apply runO_callFG known14); (focus (simp only [go_sem, *]; rfl)); (focus (intro _; simp only [go_sem, *]; exact d5 _)); (with_reducible apply runO_go); simp only [go_sem, *])
          | ((with_reducible apply runO_callF known14); simp only [go_sem, *]; refine (d7 _).use ?_; (with_reducible apply runO_go); simp only [go_sem, *])
    | ((with_reducible apply runO_callFG known14); (focus (simp only [go_sem, *]; rfl)); (focus (intro _; simp only [go_sem, *]; exact d7 _)); (with_reducible apply runO_go); simp only [go_sem, *])
          | ((with_reducible apply runO_callF known14); simp only [go_sem, *]; refine (d9 _).use ?_; (with_reducible apply runO_go); simp only [go_sem, *])
    | ((with_reducible apply runO_callFG known14); (focus (simp only [go_sem, *]; rfl)); (focus (intro _; simp only [go_sem, *]; exact d9 _)); (with_reducible apply runO_go); simp only [go_sem, *])
          | ((with_reducible apply runO_callF known14); simp only [go_sem, *]; refine (e2 _).use ?_; (with_reducible apply runO_go); simp only [go_sem, *])
    | ((with_reducible apply runO_callFG known14); (focus (simp only [go_sem, *]; rfl)); (focus (intro _; simp only [go_sem, *]; exact e2 _)); (with_reducible apply runO_go); simp only [go_sem, *])
          | ((with_reducible apply runO_callFG known16); (focus (simp only [go_sem, *]; rfl)); (focus (intro _; simp only [go_sem, *]; exact d4 _)); (with_reducible apply runO_go); simp only [go_sem, *])
          | ((with_reducible apply runO_callFG known17); (focus (simp only [go_sem, *]; rfl)); (focus (intro _; simp only [go_sem, *]; exact d6 _)); (with_reducible apply runO_go); simp only [go_sem, *])
          | ((with_reducible apply runO_callFG known18); (focus (simp only [go_sem, *]; rfl)); (focus (intro _; simp only [go_sem, *]; exact d8 _)); (with_reducible apply runO_go); simp only [go_sem, *])
          | ((with_reducible apply runO_callFG known19); (focus (simp only [go_sem, *]; rfl)); (focus (intro _; simp only [go_sem, *]; exact e1 _)); (with_reducible apply runO_go); simp only [go_sem, *])
          | ((with_reducible apply runO_callF known15); simp only [go_sem, *]; refine (d2 _).use ?_; (with_reducible apply runO_go); simp only [go_sem, *])
    | ((with_reducible apply runO_callFG known15); (focus (simp only [go_sem, *]; rfl)); (focus (intro _; simp only [go_sem, *]; exact d2 _)); (with_reducible apply runO_go); simp only [go_sem, *])
          | ((with_reducible apply runO_callF known15); simp only [go_sem, *]; refine (d3 _).use ?_; (with_reducible apply runO_go); simp only [go_sem, *])
    | ((with_reducible apply runO_callFG known15); (focus (simp only [go_sem, *]; rfl)); (focus (intro _; simp only [go_sem, *]; exact d3 _)); (with_reducible apply runO_go); simp only [go_sem, *])
          | ((with_reducible apply runO_callF known15); simp only [go_sem, *]; refine (e3 _).use ?_; (with_reducible apply runO_go); simp only [go_sem, *])
    | ((with_reducible apply runO_callFG known15); (focus (simp only [go_sem, *]; rfl)); (focus (intro _; simp only [go_sem, *]; exact e3 _)); (with_reducible apply runO_go); simp only [go_sem, *])
    | ((with_reducible apply run_ret Try.func3 res3 (H' := H)); (focus (simp only [go_sem, *]; rfl)); (focus trivial); (focus (repeat (first | assumption | exact Heap.sub_refl _ | refine Heap.sub_congr ?_ | refine Heap.sub_set ?_ (by assumption) | refine Heap.sub_set2 ?_ (by first | assumption | (simp only [*]; done) | (simp only [Heap.set_none', stH_none, ne_eq, *, not_false_eq_true, and_self]; done))))))))
        all_goals refine IHz.out (8 - (k + 1)) _ _ (by omega) ⟨k + 1, by omega, rfl, (by simp only [go_sem, *]), (by simp only [go_sem, *]), (by simp only [go_sem, *]), (by simp only [go_sem, *]), (by simp only [go_sem, *]), (by simp only [go_sem, *]), (by simp only [go_sem, *]), rfl⟩
      · have hkt' : ¬ t = (k : Int) := fun e => hkt e.symm
        rw [decide_eq_false hkt'] at d7 d9
        cases x1 <;> cases x2 <;> cases x3
        all_goals (repeat' (first
    | (with_reducible apply run_seq)
    | (with_reducible apply run_block)
    | (with_reducible apply run_inBlock)
    | (with_reducible apply run_skip)
    | (with_reducible apply run_exit rfl)
    | ((with_reducible apply run_go); simp only [go_sem, *])
    | ((with_reducible apply run_cond_t); (focus (simp only [go_sem, *]; done)))
    | ((with_reducible apply run_cond_f); (focus (simp only [go_sem, *]; done)))
    | ((with_reducible apply run_cond); (focus (simp only [go_sem, *]; rfl)); (all_goals intro _))
    | ((with_reducible apply runO_skipF); (focus (simp only [go_sem, *]; rfl)); (focus rfl); (with_reducible apply runO_go); simp only [go_sem, *])
    | ((first | (with_reducible apply runA_and) | (with_reducible apply runO_and) | (with_reducible apply runD_and)); (focus (first | assumption | (simp only [go_sem, *]; done) | (simp only [go_sem, *]; assumption))); (try simp only [go_sem, *]))
    | ((with_reducible apply runO_callF known14); simp only [go_sem, *]; refine (d1 _).use ?_; (with_reducible apply runO_go); simp only [go_sem, *])
    | ((with_reducible apply runO_callFG known14); (focus (simp only [go_sem, *]; rfl)); (focus (intro _; simp only [go_sem, *]; exact d1 _)); (with_reducible apply runO_go); simp only [go_sem, *])
          | ((with_reducible apply runO_callF known14); simp only [go_sem, *]; refine (d5 _).use ?_; (with_reducible apply runO_go); simp only [go_sem, *])
    | ((with_reducible apply runO_callFG known14); (focus (simp only [go_sem, *]; rfl)); (focus (intro _; simp only [go_sem, *]; exact d5 _)); (with_reducible apply runO_go); simp only [go_sem, *])
          | ((with_reducible apply runO_callF known14); simp only [go_sem, *]; refine (d7 _).use ?_; (with_reducible apply runO_go); simp only [go_sem, *])
    | ((with_reducible apply runO_callFG known14); (focus (simp only [go_sem, *]; rfl)); (focus (intro _; simp only [go_sem, *]; exact d7 _)); (with_reducible apply runO_go); simp only [go_sem, *])
          | ((with_reducible apply runO_callF known14); simp only [go_sem, *]; refine (d9 _).use ?_; (with_reducible apply runO_go); simp only [go_sem, *])
    | ((with_reducible apply runO_callFG known14); (focus (simp only [go_sem, *]; rfl)); (focus (intro _; simp only [go_sem, *]; exact d9 _)); (with_reducible apply runO_go); simp only [go_sem, *])
          | ((with_reducible apply runO_callF known14); simp only [go_sem, *]; refine (e2 _).use ?_; (with_reducible apply runO_go); simp only [go_sem, *])
    | ((with_reducible apply runO_callFG known14); (focus (simp only [go_sem, *]; rfl)); (focus (intro _; simp only [go_sem, *]; exact e2 _)); (with_reducible apply runO_go); simp only [go_sem, *])
          | ((with_reducible apply runO_callFG known16); (focus (simp only [go_sem, *]; rfl)); (focus (intro _; simp only [go_sem, *]; exact d4 _)); (with_reducible apply runO_go); simp only [go_sem, *])
          | ((with_reducible apply runO_callFG known17); (focus (simp only [go_sem, *]; rfl)); (focus (intro _; simp only [go_sem, *]; exact d6 _)); (with_reducible apply runO_go); simp only [go_sem, *])
          | ((with_reducible apply runO_callFG known18); (focus (simp only [go_sem, *]; rfl)); (focus (intro _; simp only [go_sem, *]; exact d8 _)); (with_reducible apply runO_go); simp only [go_sem, *])
          | ((with_reducible apply runO_callFG known19); (focus (simp only [go_sem, *]; rfl)); (focus (intro _; simp only [go_sem, *]; exact e1 _)); (with_reducible apply runO_go); simp only [go_sem, *])
          | ((with_reducible apply runO_callF known15); simp only [go_sem, *]; refine (d2 _).use ?_; (with_reducible apply runO_go); simp only [go_sem, *])
    | ((with_reducible apply runO_callFG known15); (focus (simp only [go_sem, *]; rfl)); (focus (intro _; simp only [go_sem, *]; exact d2 _)); (with_reducible apply runO_go); simp only [go_sem, *])
          | ((with_reducible apply runO_callF known15); simp only [go_sem, *]; refine (d3 _).use ?_; (with_reducible apply runO_go); simp only [go_sem, *])
    | ((with_reducible apply runO_callFG known15); (focus (simp only [go_sem, *]; rfl)); (focus (intro _; simp only [go_sem, *]; exact d3 _)); (with_reducible apply runO_go); simp only [go_sem, *])
          | ((with_reducible apply runO_callF known15); simp only [go_sem, *]; refine (e3 _).use ?_; (with_reducible apply runO_go); simp only [go_sem, *])
    | ((with_reducible apply runO_callFG known15); (focus (simp only [go_sem, *]; rfl)); (focus (intro _; simp only [go_sem, *]; exact e3 _)); (with_reducible apply runO_go); simp only [go_sem, *])
    | ((with_reducible apply run_ret Try.func3 res3 (H' := H)); (focus (simp only [go_sem, *]; rfl)); (focus trivial); (focus (repeat (first | assumption | exact Heap.sub_refl _ | refine Heap.sub_congr ?_ | refine Heap.sub_set ?_ (by assumption) | refine Heap.sub_set2 ?_ (by first | assumption | (simp only [*]; done) | (simp only [Heap.set_none', stH_none, ne_eq, *, not_false_eq_true, and_self]; done))))))))
        all_goals refine IHz.out (8 - (k + 1)) _ _ (by omega) ⟨k + 1, by omega, rfl, (by simp only [go_sem, *]), (by simp only [go_sem, *]), (by simp only [go_sem, *]), (by simp only [go_sem, *]), (by simp only [go_sem, *]), (by simp only [go_sem, *]), (by simp only [go_sem, *]), rfl⟩
    · obtain rfl : k = 8 := by omega
      have d1 := fun H => setAll_call W H a
      have d2 := fun H => sameInts_call W H (allB a 8) (allB a 8) (by omega)
      rw [decide_eq_true rfl] at d2
      have d3 := fun H => setLen_call W H a
      have d4 := fun H => setHas_call W H a t
      have d5 := fun H => in_call W H (allB a 8) t (by omega)
      rw [in_allB] at d5
      have hln : (lenB a : Int) = ((allB a 8).length : Int) := rfl
      repeat' (first
    | (with_reducible apply run_seq)
    | (with_reducible apply run_block)
    | (with_reducible apply run_inBlock)
    | (with_reducible apply run_skip)
    | (with_reducible apply run_exit rfl)
    | ((with_reducible apply run_go); simp only [go_sem, *])
    | ((with_reducible apply run_cond_t); (focus (simp only [go_sem, *]; done)))
    | ((with_reducible apply run_cond_f); (focus (simp only [go_sem, *]; done)))
    | ((with_reducible apply run_cond); (focus (simp only [go_sem, *]; rfl)); (all_goals intro _))
    | ((with_reducible apply runO_skipF); (focus (simp only [go_sem, *]; rfl)); (focus rfl); (with_reducible apply runO_go); simp only [go_sem, *])
    | ((first | (with_reducible apply runA_and) | (with_reducible apply runO_and) | (with_reducible apply runD_and)); (focus (first | assumption | (simp only [go_sem, *]; done) | (simp only [go_sem, *]; assumption))); (try simp only [go_sem, *]))
    | ((with_reducible apply runO_callF known21); simp only [go_sem, *]; refine (d1 _).use ?_; (with_reducible apply runO_go); simp only [go_sem, *])
        | ((with_reducible apply runO_callF known14); simp only [go_sem, *]; refine (d4 _).use ?_; (with_reducible apply runO_go); simp only [go_sem, *])
    | ((with_reducible apply runO_callFG known14); (focus (simp only [go_sem, *]; rfl)); (focus (intro _; simp only [go_sem, *]; exact d4 _)); (with_reducible apply runO_go); simp only [go_sem, *])
        | ((with_reducible apply runO_callFG known22); (focus (simp only [go_sem, *]; rfl)); (focus (intro _; simp only [go_sem, *]; exact d3 _)); (with_reducible apply runO_go); simp only [go_sem, *])
        | ((with_reducible apply runO_callF known15); simp only [go_sem, *]; refine (d5 _).use ?_; (with_reducible apply runO_go); simp only [go_sem, *])
    | ((with_reducible apply runO_callFG known15); (focus (simp only [go_sem, *]; rfl)); (focus (intro _; simp only [go_sem, *]; exact d5 _)); (with_reducible apply runO_go); simp only [go_sem, *])
        | ((with_reducible apply runO_callF known20); simp only [go_sem, *]; refine (d2 _).use ?_; (with_reducible apply runO_go); simp only [go_sem, *])
    | ((with_reducible apply run_ret Try.func3 res3 (H' := H)); (focus (simp only [go_sem, *]; rfl)); (focus trivial); (focus (repeat (first | assumption | exact Heap.sub_refl _ | refine Heap.sub_congr ?_ | refine Heap.sub_set ?_ (by assumption) | refine Heap.sub_set2 ?_ (by first | assumption | (simp only [*]; done) | (simp only [Heap.set_none', stH_none, ne_eq, *, not_false_eq_true, and_self]; done)))))))
      rfl
  · have hl' : (50 : Int) < (list.length : Int) := by omega
    repeat' (first
    | (with_reducible apply run_seq)
    | (with_reducible apply run_block)
    | (with_reducible apply run_inBlock)
    | (with_reducible apply run_skip)
    | (with_reducible apply run_exit rfl)
    | ((with_reducible apply run_go); simp only [go_sem, *])
    | ((with_reducible apply run_cond_t); (focus (simp only [go_sem, *]; done)))
    | ((with_reducible apply run_cond_f); (focus (simp only [go_sem, *]; done)))
    | ((with_reducible apply run_cond); (focus (simp only [go_sem, *]; rfl)); (all_goals intro _))
    | ((with_reducible apply runO_skipF); (focus (simp only [go_sem, *]; rfl)); (focus rfl); (with_reducible apply runO_go); simp only [go_sem, *])
    | ((first | (with_reducible apply runA_and) | (with_reducible apply runO_and) | (with_reducible apply runD_and)); (focus (first | assumption | (simp only [go_sem, *]; done) | (simp only [go_sem, *]; assumption))); (try simp only [go_sem, *]))
    | ((with_reducible apply runO_callF known12); simp only [go_sem, *]; refine (c0 _).use ?_; (with_reducible apply runO_go); simp only [go_sem, *])
    | ((with_reducible apply run_ret Try.func3 res3 (H' := H)); (focus (simp only [go_sem, *]; rfl)); (focus trivial); (focus (repeat (first | assumption | exact Heap.sub_refl _ | refine Heap.sub_congr ?_ | refine Heap.sub_set ?_ (by assumption) | refine Heap.sub_set2 ?_ (by first | assumption | (simp only [*]; done) | (simp only [Heap.set_none', stH_none, ne_eq, *, not_false_eq_true, and_self]; done)))))))
    rfl
end Go.Proofs.Ytobdagjdhgjplaa
