/-
  Contracts: what may be, of rows of events; numbers.
-/
import Derived.Test.YtakaimfpicjpaaaEventD
set_option linter.unusedSimpArgs false
set_option linter.unusedVariables false
namespace Go.Proofs.Ytakaimfpicjpaaa
open Go Go.Sn Go.RowKit

theorem rightC_call (W : World) (H : Heap) (e : Ev) :
    CallA Try.prog W 44 [.agg (evC e)] H fun r H' => r = .v (.bool (!rightR e)) ∧ H' = H := by
  refine call_in Try.func44 rfl Try.ntmps44 (by simp) ?_
  have cr := right_call W
  simp only [right_eq] at cr
  repeat' (first
    | (with_reducible apply run_seq)
    | (with_reducible apply run_block)
    | (with_reducible apply run_inBlock)
    | (with_reducible apply run_skip)
    | (with_reducible apply run_exit rfl)
    | ((with_reducible apply run_go); simp only [go_sem, *])
    | ((with_reducible apply run_drawGo (fun _ => false) mixed); (focus kernel_rfl); simp only [go_sem, *])
    | ((with_reducible apply run_cond_t); (focus (simp only [go_sem, *]; done)))
    | ((with_reducible apply run_cond_f); (focus (simp only [go_sem, *]; done)))
    | ((with_reducible apply run_cond); (focus (simp only [go_sem, *]; rfl)); (all_goals intro _))
    | ((with_reducible apply runO_box); (focus (simp only [go_sem, *]; done)); intro pb hpb; (try simp only [Heap.set_none'] at hpb); (with_reducible apply runO_go); simp only [go_sem, *])
    | ((with_reducible apply runO_alloc); (focus (simp only [go_sem, *]; rfl)); intro pb hpb; (try simp only [Heap.set_none'] at hpb); (with_reducible apply runO_go); simp only [go_sem, *])
    | ((with_reducible apply runD_box); (focus (simp only [go_sem, *]; done)); intro pb hpb; (try simp only [Heap.set_none'] at hpb); (with_reducible apply runD_go); simp only [go_sem, *])
    | ((with_reducible apply runD_alloc); (focus (simp only [go_sem, *]; rfl)); intro pb hpb; (try simp only [Heap.set_none'] at hpb); (with_reducible apply runD_go); simp only [go_sem, *])
    | ((with_reducible apply runO_makeMap); intro pb hpb; (try simp only [Heap.set_none'] at hpb); (with_reducible apply runO_go); simp only [go_sem, *])
    | ((with_reducible apply runO_store); (focus (simp only [go_sem]; rfl)); (focus (simp only [go_sem, *]; rfl)); (focus (simp only [go_sem, *]; rfl)); (focus (simp only [go_sem, *]; done)); (focus (simp only [go_sem, *]; done)); (focus (simp only [go_sem, *]; done)); (with_reducible apply runO_go); simp only [go_sem, *, Heap.set_set])
    | ((with_reducible apply runD_store); (focus (simp only [go_sem]; rfl)); (focus (simp only [go_sem, *]; rfl)); (focus (simp only [go_sem, *]; rfl)); (focus (simp only [go_sem, *]; done)); (focus (simp only [go_sem, *]; done)); (focus (simp only [go_sem, *]; done)); (with_reducible apply runD_go); simp only [go_sem, *, Heap.set_set])
    | ((with_reducible apply runD_skipF); (focus rfl); (focus (simp only [go_sem, *]; rfl)); (focus rfl); (with_reducible apply runD_go); simp only [go_sem, *])
    | ((with_reducible apply runO_skipF); (focus (simp only [go_sem, *]; rfl)); (focus rfl); (with_reducible apply runO_go); simp only [go_sem, *])
    | ((first | (with_reducible apply runA_and) | (with_reducible apply runO_and) | (with_reducible apply runD_and)); (focus (first | assumption | (simp only [go_sem, *]; done) | (simp only [go_sem, *]; assumption))); (try simp only [go_sem, *]))
    | ((with_reducible apply runO_callF known14); simp only [go_sem, *]; refine (cr _ e).use ?_; (with_reducible apply runO_go); simp only [go_sem, *])
    | ((with_reducible apply runO_callFG known14); (focus (simp only [go_sem, *]; rfl)); (focus (intro _; simp only [go_sem, *]; exact cr _ e)); (with_reducible apply runO_go); simp only [go_sem, *])
    | ((with_reducible apply runD_callF known14); (focus (simp only [go_sem, *]; exact cr _ e)); (with_reducible apply runD_go); simp only [go_sem, *])
    | ((with_reducible apply runD_callFG known14); (focus rfl); (focus (simp only [go_sem, *]; rfl)); (focus (intro _; simp only [go_sem, *]; exact cr _ e)); (with_reducible apply runD_go); simp only [go_sem, *])
    | ((with_reducible apply run_ret Try.func44 res44 (H' := H)); (focus (simp only [go_sem, *]; rfl)); (focus trivial); (focus (repeat (first | assumption | exact Heap.sub_refl _ | refine Heap.sub_congr ?_ | refine Heap.sub_set ?_ (by assumption) | refine Heap.sub_set2 ?_ (by first | assumption | (simp only [*]; done) | (simp only [Heap.set_none', ne_eq, *, not_false_eq_true, and_self]; done))))))
    | ((with_reducible apply run_end Try.func44 res44 (H' := H)); (focus (simp only [go_sem, *]; rfl)); (focus trivial); (focus (repeat (first | assumption | exact Heap.sub_refl _ | refine Heap.sub_congr ?_ | refine Heap.sub_set ?_ (by assumption) | refine Heap.sub_set2 ?_ (by first | assumption | (simp only [*]; done) | (simp only [Heap.set_none', ne_eq, *, not_false_eq_true, and_self]; done)))))))
  exact ⟨rfl, rfl⟩

/-- The place of the first that may not be. -/
def badAt (l : List Ev) : Int := if l.all rightR then -1 else ((l.findIdx fun e => !rightR e : Nat) : Int)

theorem badAt_of {l : List Ev} {k : Nat} (h : k < l.length) (ha : (l.take k).all rightR = true) (hk : rightR (l.getD k default) = false) : badAt l = (k : Int) := by
  rw [badAt, if_neg (by rw [all_not h hk]; simp)]
  congr 1
  rw [List.findIdx_eq h]
  refine ⟨by simpa [List.getD, h] using hk, fun j hj => ?_⟩
  have := List.all_eq_true.1 ha (l[j]'(by omega)) (List.mem_take_iff_getElem.2 ⟨j, by omega, rfl⟩)
  simp [this]

theorem indexF_call (W : World) (H : Heap) (l : List Ev) (hl : l.length ≤ 1000000) :
    CallA Try.prog W 45 [.list (evsC l), .v (.func (.func 44) #[] #[])] H fun r H' => r = .v (.int .i64 (badAt l)) ∧ H' = H := by
  refine call_in Try.func45 rfl Try.ntmps45 (by simp) ?_
  repeat' (first
    | (with_reducible apply run_seq)
    | (with_reducible apply run_block)
    | (with_reducible apply run_inBlock)
    | (with_reducible apply run_skip)
    | (with_reducible apply run_exit rfl)
    | ((with_reducible apply run_go); simp only [go_sem, *])
    | ((with_reducible apply run_drawGo (fun _ => false) mixed); (focus kernel_rfl); simp only [go_sem, *])
    | ((with_reducible apply run_cond_t); (focus (simp only [go_sem, *]; done)))
    | ((with_reducible apply run_cond_f); (focus (simp only [go_sem, *]; done)))
    | ((with_reducible apply run_cond); (focus (simp only [go_sem, *]; rfl)); (all_goals intro _))
    | ((with_reducible apply runO_box); (focus (simp only [go_sem, *]; done)); intro pb hpb; (try simp only [Heap.set_none'] at hpb); (with_reducible apply runO_go); simp only [go_sem, *])
    | ((with_reducible apply runO_alloc); (focus (simp only [go_sem, *]; rfl)); intro pb hpb; (try simp only [Heap.set_none'] at hpb); (with_reducible apply runO_go); simp only [go_sem, *])
    | ((with_reducible apply runD_box); (focus (simp only [go_sem, *]; done)); intro pb hpb; (try simp only [Heap.set_none'] at hpb); (with_reducible apply runD_go); simp only [go_sem, *])
    | ((with_reducible apply runD_alloc); (focus (simp only [go_sem, *]; rfl)); intro pb hpb; (try simp only [Heap.set_none'] at hpb); (with_reducible apply runD_go); simp only [go_sem, *])
    | ((with_reducible apply runO_makeMap); intro pb hpb; (try simp only [Heap.set_none'] at hpb); (with_reducible apply runO_go); simp only [go_sem, *])
    | ((with_reducible apply runO_store); (focus (simp only [go_sem]; rfl)); (focus (simp only [go_sem, *]; rfl)); (focus (simp only [go_sem, *]; rfl)); (focus (simp only [go_sem, *]; done)); (focus (simp only [go_sem, *]; done)); (focus (simp only [go_sem, *]; done)); (with_reducible apply runO_go); simp only [go_sem, *, Heap.set_set])
    | ((with_reducible apply runD_store); (focus (simp only [go_sem]; rfl)); (focus (simp only [go_sem, *]; rfl)); (focus (simp only [go_sem, *]; rfl)); (focus (simp only [go_sem, *]; done)); (focus (simp only [go_sem, *]; done)); (focus (simp only [go_sem, *]; done)); (with_reducible apply runD_go); simp only [go_sem, *, Heap.set_set])
    | ((with_reducible apply runD_skipF); (focus rfl); (focus (simp only [go_sem, *]; rfl)); (focus rfl); (with_reducible apply runD_go); simp only [go_sem, *])
    | ((with_reducible apply runO_skipF); (focus (simp only [go_sem, *]; rfl)); (focus rfl); (with_reducible apply runO_go); simp only [go_sem, *])
    | ((first | (with_reducible apply runA_and) | (with_reducible apply runO_and) | (with_reducible apply runD_and)); (focus (first | assumption | (simp only [go_sem, *]; done) | (simp only [go_sem, *]; assumption))); (try simp only [go_sem, *]))
    | ((with_reducible apply run_ret Try.func45 res45 (H' := H)); (focus (simp only [go_sem, *]; rfl)); (focus trivial); (focus (repeat (first | assumption | exact Heap.sub_refl _ | refine Heap.sub_congr ?_ | refine Heap.sub_set ?_ (by assumption) | refine Heap.sub_set2 ?_ (by first | assumption | (simp only [*]; done) | (simp only [Heap.set_none', ne_eq, *, not_false_eq_true, and_self]; done))))))
    | ((with_reducible apply run_end Try.func45 res45 (H' := H)); (focus (simp only [go_sem, *]; rfl)); (focus trivial); (focus (repeat (first | assumption | exact Heap.sub_refl _ | refine Heap.sub_congr ?_ | refine Heap.sub_set ?_ (by assumption) | refine Heap.sub_set2 ?_ (by first | assumption | (simp only [*]; done) | (simp only [Heap.set_none', ne_eq, *, not_false_eq_true, and_self]; done)))))))
  refine run_loop (fun n e H' => ∃ k : Nat, k ≤ l.length ∧ n = l.length - k ∧ (l.take k).all rightR = true ∧ e 0 = .list (evsC l) ∧ e 1 = .v (.func (.func 44) #[] #[]) ∧ e 7 = .v (.int .i64 (l.length : Int)) ∧ e 8 = .v (.int .i64 (k : Int)) ∧ H = H') l.length
      ⟨0, Nat.zero_le _, rfl, rfl, (by simp only [go_sem, *]), (by simp only [go_sem, *]), (by simp only [go_sem, *]), by simp only [go_sem] <;> rfl, rfl⟩ ?_
  rintro n e H' ih ⟨k, hk, rfl, hall, h0, h1, h7, h8, rfl⟩
  have IH : Hid _ := ih
  clear ih
  have HA : Hid _ := hall
  clear hall
  by_cases hlt : k < l.length
  · have hw : IntKind.i64.wrap ((k : Int) + 1) = ((k + 1 : Nat) : Int) := by rw [wrap_nat (by omega) (by omega)]; rfl
    by_cases hr : rightR (l.getD k default) = true
    · repeat' (first
    | (with_reducible apply run_seq)
    | (with_reducible apply run_block)
    | (with_reducible apply run_inBlock)
    | (with_reducible apply run_skip)
    | (with_reducible apply run_exit rfl)
    | ((with_reducible apply run_go); simp only [go_sem, *])
    | ((with_reducible apply run_drawGo (fun _ => false) mixed); (focus kernel_rfl); simp only [go_sem, *])
    | ((with_reducible apply run_cond_t); (focus (simp only [go_sem, *]; done)))
    | ((with_reducible apply run_cond_f); (focus (simp only [go_sem, *]; done)))
    | ((with_reducible apply run_cond); (focus (simp only [go_sem, *]; rfl)); (all_goals intro _))
    | ((with_reducible apply runO_box); (focus (simp only [go_sem, *]; done)); intro pb hpb; (try simp only [Heap.set_none'] at hpb); (with_reducible apply runO_go); simp only [go_sem, *])
    | ((with_reducible apply runO_alloc); (focus (simp only [go_sem, *]; rfl)); intro pb hpb; (try simp only [Heap.set_none'] at hpb); (with_reducible apply runO_go); simp only [go_sem, *])
    | ((with_reducible apply runD_box); (focus (simp only [go_sem, *]; done)); intro pb hpb; (try simp only [Heap.set_none'] at hpb); (with_reducible apply runD_go); simp only [go_sem, *])
    | ((with_reducible apply runD_alloc); (focus (simp only [go_sem, *]; rfl)); intro pb hpb; (try simp only [Heap.set_none'] at hpb); (with_reducible apply runD_go); simp only [go_sem, *])
    | ((with_reducible apply runO_makeMap); intro pb hpb; (try simp only [Heap.set_none'] at hpb); (with_reducible apply runO_go); simp only [go_sem, *])
    | ((with_reducible apply runO_store); (focus (simp only [go_sem]; rfl)); (focus (simp only [go_sem, *]; rfl)); (focus (simp only [go_sem, *]; rfl)); (focus (simp only [go_sem, *]; done)); (focus (simp only [go_sem, *]; done)); (focus (simp only [go_sem, *]; done)); (with_reducible apply runO_go); simp only [go_sem, *, Heap.set_set])
    | ((with_reducible apply runD_store); (focus (simp only [go_sem]; rfl)); (focus (simp only [go_sem, *]; rfl)); (focus (simp only [go_sem, *]; rfl)); (focus (simp only [go_sem, *]; done)); (focus (simp only [go_sem, *]; done)); (focus (simp only [go_sem, *]; done)); (with_reducible apply runD_go); simp only [go_sem, *, Heap.set_set])
    | ((with_reducible apply runD_skipF); (focus rfl); (focus (simp only [go_sem, *]; rfl)); (focus rfl); (with_reducible apply runD_go); simp only [go_sem, *])
    | ((with_reducible apply runO_skipF); (focus (simp only [go_sem, *]; rfl)); (focus rfl); (with_reducible apply runO_go); simp only [go_sem, *])
    | ((first | (with_reducible apply runA_and) | (with_reducible apply runO_and) | (with_reducible apply runD_and)); (focus (first | assumption | (simp only [go_sem, *]; done) | (simp only [go_sem, *]; assumption))); (try simp only [go_sem, *]))
    | ((with_reducible apply runO_callV); (focus (simp only [go_sem, *]; rfl)); (focus (exact known44)); simp only [go_sem, *]; refine (rightC_call W _ _).use ?_; (with_reducible apply runO_go); simp only [go_sem, *])
    | ((with_reducible apply runD_callV); (focus (simp only [go_sem, *]; rfl)); (focus (exact known44)); (focus (simp only [go_sem, *]; exact rightC_call W _ _)); (with_reducible apply runD_go); simp only [go_sem, *])
    | ((with_reducible apply runD_callVG); (focus (simp only [go_sem, *]; rfl)); (focus (simp only [go_sem, *]; rfl)); (focus (exact known44)); (focus (intro _; simp only [go_sem, *]; exact rightC_call W _ _)); (with_reducible apply runD_go); simp only [go_sem, *])
    | ((with_reducible apply run_ret Try.func45 res45 (H' := H)); (focus (simp only [go_sem, *]; rfl)); (focus trivial); (focus (repeat (first | assumption | exact Heap.sub_refl _ | refine Heap.sub_congr ?_ | refine Heap.sub_set ?_ (by assumption) | refine Heap.sub_set2 ?_ (by first | assumption | (simp only [*]; done) | (simp only [Heap.set_none', ne_eq, *, not_false_eq_true, and_self]; done))))))
    | ((with_reducible apply run_end Try.func45 res45 (H' := H)); (focus (simp only [go_sem, *]; rfl)); (focus trivial); (focus (repeat (first | assumption | exact Heap.sub_refl _ | refine Heap.sub_congr ?_ | refine Heap.sub_set ?_ (by assumption) | refine Heap.sub_set2 ?_ (by first | assumption | (simp only [*]; done) | (simp only [Heap.set_none', ne_eq, *, not_false_eq_true, and_self]; done)))))))
      refine IH.out (l.length - (k + 1)) _ _ (by omega) ⟨k + 1, by omega, rfl, all_take_succ hlt HA.out hr, (by simp only [go_sem, *]), (by simp only [go_sem, *]), (by simp only [go_sem, *]), (by simp only [go_sem, *]), rfl⟩
    · have hr' : rightR (l.getD k default) = false := by simpa using hr
      repeat' (first
    | (with_reducible apply run_seq)
    | (with_reducible apply run_block)
    | (with_reducible apply run_inBlock)
    | (with_reducible apply run_skip)
    | (with_reducible apply run_exit rfl)
    | ((with_reducible apply run_go); simp only [go_sem, *])
    | ((with_reducible apply run_drawGo (fun _ => false) mixed); (focus kernel_rfl); simp only [go_sem, *])
    | ((with_reducible apply run_cond_t); (focus (simp only [go_sem, *]; done)))
    | ((with_reducible apply run_cond_f); (focus (simp only [go_sem, *]; done)))
    | ((with_reducible apply run_cond); (focus (simp only [go_sem, *]; rfl)); (all_goals intro _))
    | ((with_reducible apply runO_box); (focus (simp only [go_sem, *]; done)); intro pb hpb; (try simp only [Heap.set_none'] at hpb); (with_reducible apply runO_go); simp only [go_sem, *])
    | ((with_reducible apply runO_alloc); (focus (simp only [go_sem, *]; rfl)); intro pb hpb; (try simp only [Heap.set_none'] at hpb); (with_reducible apply runO_go); simp only [go_sem, *])
    | ((with_reducible apply runD_box); (focus (simp only [go_sem, *]; done)); intro pb hpb; (try simp only [Heap.set_none'] at hpb); (with_reducible apply runD_go); simp only [go_sem, *])
    | ((with_reducible apply runD_alloc); (focus (simp only [go_sem, *]; rfl)); intro pb hpb; (try simp only [Heap.set_none'] at hpb); (with_reducible apply runD_go); simp only [go_sem, *])
    | ((with_reducible apply runO_makeMap); intro pb hpb; (try simp only [Heap.set_none'] at hpb); (with_reducible apply runO_go); simp only [go_sem, *])
    | ((with_reducible apply runO_store); (focus (simp only [go_sem]; rfl)); (focus (simp only [go_sem, *]; rfl)); (focus (simp only [go_sem, *]; rfl)); (focus (simp only [go_sem, *]; done)); (focus (simp only [go_sem, *]; done)); (focus (simp only [go_sem, *]; done)); (with_reducible apply runO_go); simp only [go_sem, *, Heap.set_set])
    | ((with_reducible apply runD_store); (focus (simp only [go_sem]; rfl)); (focus (simp only [go_sem, *]; rfl)); (focus (simp only [go_sem, *]; rfl)); (focus (simp only [go_sem, *]; done)); (focus (simp only [go_sem, *]; done)); (focus (simp only [go_sem, *]; done)); (with_reducible apply runD_go); simp only [go_sem, *, Heap.set_set])
    | ((with_reducible apply runD_skipF); (focus rfl); (focus (simp only [go_sem, *]; rfl)); (focus rfl); (with_reducible apply runD_go); simp only [go_sem, *])
    | ((with_reducible apply runO_skipF); (focus (simp only [go_sem, *]; rfl)); (focus rfl); (with_reducible apply runO_go); simp only [go_sem, *])
    | ((first | (with_reducible apply runA_and) | (with_reducible apply runO_and) | (with_reducible apply runD_and)); (focus (first | assumption | (simp only [go_sem, *]; done) | (simp only [go_sem, *]; assumption))); (try simp only [go_sem, *]))
    | ((with_reducible apply runO_callV); (focus (simp only [go_sem, *]; rfl)); (focus (exact known44)); simp only [go_sem, *]; refine (rightC_call W _ _).use ?_; (with_reducible apply runO_go); simp only [go_sem, *])
    | ((with_reducible apply runD_callV); (focus (simp only [go_sem, *]; rfl)); (focus (exact known44)); (focus (simp only [go_sem, *]; exact rightC_call W _ _)); (with_reducible apply runD_go); simp only [go_sem, *])
    | ((with_reducible apply runD_callVG); (focus (simp only [go_sem, *]; rfl)); (focus (simp only [go_sem, *]; rfl)); (focus (exact known44)); (focus (intro _; simp only [go_sem, *]; exact rightC_call W _ _)); (with_reducible apply runD_go); simp only [go_sem, *])
    | ((with_reducible apply run_ret Try.func45 res45 (H' := H)); (focus (simp only [go_sem, *]; rfl)); (focus trivial); (focus (repeat (first | assumption | exact Heap.sub_refl _ | refine Heap.sub_congr ?_ | refine Heap.sub_set ?_ (by assumption) | refine Heap.sub_set2 ?_ (by first | assumption | (simp only [*]; done) | (simp only [Heap.set_none', ne_eq, *, not_false_eq_true, and_self]; done))))))
    | ((with_reducible apply run_end Try.func45 res45 (H' := H)); (focus (simp only [go_sem, *]; rfl)); (focus trivial); (focus (repeat (first | assumption | exact Heap.sub_refl _ | refine Heap.sub_congr ?_ | refine Heap.sub_set ?_ (by assumption) | refine Heap.sub_set2 ?_ (by first | assumption | (simp only [*]; done) | (simp only [Heap.set_none', ne_eq, *, not_false_eq_true, and_self]; done)))))))
      exact ⟨by rw [badAt_of hlt HA.out hr']; rfl, rfl⟩
  · repeat' (first
    | (with_reducible apply run_seq)
    | (with_reducible apply run_block)
    | (with_reducible apply run_inBlock)
    | (with_reducible apply run_skip)
    | (with_reducible apply run_exit rfl)
    | ((with_reducible apply run_go); simp only [go_sem, *])
    | ((with_reducible apply run_drawGo (fun _ => false) mixed); (focus kernel_rfl); simp only [go_sem, *])
    | ((with_reducible apply run_cond_t); (focus (simp only [go_sem, *]; done)))
    | ((with_reducible apply run_cond_f); (focus (simp only [go_sem, *]; done)))
    | ((with_reducible apply run_cond); (focus (simp only [go_sem, *]; rfl)); (all_goals intro _))
    | ((with_reducible apply runO_box); (focus (simp only [go_sem, *]; done)); intro pb hpb; (try simp only [Heap.set_none'] at hpb); (with_reducible apply runO_go); simp only [go_sem, *])
    | ((with_reducible apply runO_alloc); (focus (simp only [go_sem, *]; rfl)); intro pb hpb; (try simp only [Heap.set_none'] at hpb); (with_reducible apply runO_go); simp only [go_sem, *])
    | ((with_reducible apply runD_box); (focus (simp only [go_sem, *]; done)); intro pb hpb; (try simp only [Heap.set_none'] at hpb); (with_reducible apply runD_go); simp only [go_sem, *])
    | ((with_reducible apply runD_alloc); (focus (simp only [go_sem, *]; rfl)); intro pb hpb; (try simp only [Heap.set_none'] at hpb); (with_reducible apply runD_go); simp only [go_sem, *])
    | ((with_reducible apply runO_makeMap); intro pb hpb; (try simp only [Heap.set_none'] at hpb); (with_reducible apply runO_go); simp only [go_sem, *])
    | ((with_reducible apply runO_store); (focus (simp only [go_sem]; rfl)); (focus (simp only [go_sem, *]; rfl)); (focus (simp only [go_sem, *]; rfl)); (focus (simp only [go_sem, *]; done)); (focus (simp only [go_sem, *]; done)); (focus (simp only [go_sem, *]; done)); (with_reducible apply runO_go); simp only [go_sem, *, Heap.set_set])
    | ((with_reducible apply runD_store); (focus (simp only [go_sem]; rfl)); (focus (simp only [go_sem, *]; rfl)); (focus (simp only [go_sem, *]; rfl)); (focus (simp only [go_sem, *]; done)); (focus (simp only [go_sem, *]; done)); (focus (simp only [go_sem, *]; done)); (with_reducible apply runD_go); simp only [go_sem, *, Heap.set_set])
    | ((with_reducible apply runD_skipF); (focus rfl); (focus (simp only [go_sem, *]; rfl)); (focus rfl); (with_reducible apply runD_go); simp only [go_sem, *])
    | ((with_reducible apply runO_skipF); (focus (simp only [go_sem, *]; rfl)); (focus rfl); (with_reducible apply runO_go); simp only [go_sem, *])
    | ((first | (with_reducible apply runA_and) | (with_reducible apply runO_and) | (with_reducible apply runD_and)); (focus (first | assumption | (simp only [go_sem, *]; done) | (simp only [go_sem, *]; assumption))); (try simp only [go_sem, *]))
    | ((with_reducible apply run_ret Try.func45 res45 (H' := H)); (focus (simp only [go_sem, *]; rfl)); (focus trivial); (focus (repeat (first | assumption | exact Heap.sub_refl _ | refine Heap.sub_congr ?_ | refine Heap.sub_set ?_ (by assumption) | refine Heap.sub_set2 ?_ (by first | assumption | (simp only [*]; done) | (simp only [Heap.set_none', ne_eq, *, not_false_eq_true, and_self]; done))))))
    | ((with_reducible apply run_end Try.func45 res45 (H' := H)); (focus (simp only [go_sem, *]; rfl)); (focus trivial); (focus (repeat (first | assumption | exact Heap.sub_refl _ | refine Heap.sub_congr ?_ | refine Heap.sub_set ?_ (by assumption) | refine Heap.sub_set2 ?_ (by first | assumption | (simp only [*]; done) | (simp only [Heap.set_none', ne_eq, *, not_false_eq_true, and_self]; done)))))))
    have ha := HA.out
    rw [List.take_of_length_le (Nat.not_lt.1 hlt)] at ha
    exact ⟨by rw [badAt, if_pos ha]; rfl, rfl⟩

theorem containsF_call (W : World) (H : Heap) (l : List Ev) (hl : l.length ≤ 1000000) :
    CallA Try.prog W 43 [.list (evsC l), .v (.func (.func 44) #[] #[])] H fun r H' => r = .v (.bool (!l.all rightR)) ∧ H' = H := by
  refine call_in Try.func43 rfl Try.ntmps43 (by simp) ?_
  have ci := fun H => indexF_call W H l hl
  repeat' (first
    | (with_reducible apply run_seq)
    | (with_reducible apply run_block)
    | (with_reducible apply run_inBlock)
    | (with_reducible apply run_skip)
    | (with_reducible apply run_exit rfl)
    | ((with_reducible apply run_go); simp only [go_sem, *])
    | ((with_reducible apply run_drawGo (fun _ => false) mixed); (focus kernel_rfl); simp only [go_sem, *])
    | ((with_reducible apply run_cond_t); (focus (simp only [go_sem, *]; done)))
    | ((with_reducible apply run_cond_f); (focus (simp only [go_sem, *]; done)))
    | ((with_reducible apply run_cond); (focus (simp only [go_sem, *]; rfl)); (all_goals intro _))
    | ((with_reducible apply runO_box); (focus (simp only [go_sem, *]; done)); intro pb hpb; (try simp only [Heap.set_none'] at hpb); (with_reducible apply runO_go); simp only [go_sem, *])
    | ((with_reducible apply runO_alloc); (focus (simp only [go_sem, *]; rfl)); intro pb hpb; (try simp only [Heap.set_none'] at hpb); (with_reducible apply runO_go); simp only [go_sem, *])
    | ((with_reducible apply runD_box); (focus (simp only [go_sem, *]; done)); intro pb hpb; (try simp only [Heap.set_none'] at hpb); (with_reducible apply runD_go); simp only [go_sem, *])
    | ((with_reducible apply runD_alloc); (focus (simp only [go_sem, *]; rfl)); intro pb hpb; (try simp only [Heap.set_none'] at hpb); (with_reducible apply runD_go); simp only [go_sem, *])
    | ((with_reducible apply runO_makeMap); intro pb hpb; (try simp only [Heap.set_none'] at hpb); (with_reducible apply runO_go); simp only [go_sem, *])
    | ((with_reducible apply runO_store); (focus (simp only [go_sem]; rfl)); (focus (simp only [go_sem, *]; rfl)); (focus (simp only [go_sem, *]; rfl)); (focus (simp only [go_sem, *]; done)); (focus (simp only [go_sem, *]; done)); (focus (simp only [go_sem, *]; done)); (with_reducible apply runO_go); simp only [go_sem, *, Heap.set_set])
    | ((with_reducible apply runD_store); (focus (simp only [go_sem]; rfl)); (focus (simp only [go_sem, *]; rfl)); (focus (simp only [go_sem, *]; rfl)); (focus (simp only [go_sem, *]; done)); (focus (simp only [go_sem, *]; done)); (focus (simp only [go_sem, *]; done)); (with_reducible apply runD_go); simp only [go_sem, *, Heap.set_set])
    | ((with_reducible apply runD_skipF); (focus rfl); (focus (simp only [go_sem, *]; rfl)); (focus rfl); (with_reducible apply runD_go); simp only [go_sem, *])
    | ((with_reducible apply runO_skipF); (focus (simp only [go_sem, *]; rfl)); (focus rfl); (with_reducible apply runO_go); simp only [go_sem, *])
    | ((first | (with_reducible apply runA_and) | (with_reducible apply runO_and) | (with_reducible apply runD_and)); (focus (first | assumption | (simp only [go_sem, *]; done) | (simp only [go_sem, *]; assumption))); (try simp only [go_sem, *]))
    | ((with_reducible apply runO_callF known45); simp only [go_sem, *]; refine (ci _).use ?_; (with_reducible apply runO_go); simp only [go_sem, *])
    | ((with_reducible apply runO_callFG known45); (focus (simp only [go_sem, *]; rfl)); (focus (intro _; simp only [go_sem, *]; exact ci _)); (with_reducible apply runO_go); simp only [go_sem, *])
    | ((with_reducible apply runD_callF known45); (focus (simp only [go_sem, *]; exact ci _)); (with_reducible apply runD_go); simp only [go_sem, *])
    | ((with_reducible apply runD_callFG known45); (focus rfl); (focus (simp only [go_sem, *]; rfl)); (focus (intro _; simp only [go_sem, *]; exact ci _)); (with_reducible apply runD_go); simp only [go_sem, *])
    | ((with_reducible apply run_ret Try.func43 res43 (H' := H)); (focus (simp only [go_sem, *]; rfl)); (focus trivial); (focus (repeat (first | assumption | exact Heap.sub_refl _ | refine Heap.sub_congr ?_ | refine Heap.sub_set ?_ (by assumption) | refine Heap.sub_set2 ?_ (by first | assumption | (simp only [*]; done) | (simp only [Heap.set_none', ne_eq, *, not_false_eq_true, and_self]; done))))))
    | ((with_reducible apply run_end Try.func43 res43 (H' := H)); (focus (simp only [go_sem, *]; rfl)); (focus trivial); (focus (repeat (first | assumption | exact Heap.sub_refl _ | refine Heap.sub_congr ?_ | refine Heap.sub_set ?_ (by assumption) | refine Heap.sub_set2 ?_ (by first | assumption | (simp only [*]; done) | (simp only [Heap.set_none', ne_eq, *, not_false_eq_true, and_self]; done)))))))
  refine ⟨?_, rfl⟩
  have : decide (0 ≤ badAt l) = !l.all rightR := by
    unfold badAt
    split
    · rename_i h; simp [h]
    · rename_i h; simp [h]
  rw [this]; rfl

theorem rightsC_call (W : World) (H : Heap) (l : List Ev) (hl : l.length ≤ 1000000) :
    CallA Try.prog W 39 [.list (evsC l)] H fun r H' => r = .v (.bool (l.all rightR)) ∧ H' = H := by
  refine call_in Try.func39 rfl Try.ntmps39 (by simp) ?_
  have ci := fun H => containsF_call W H l hl
  repeat' (first
    | (with_reducible apply run_seq)
    | (with_reducible apply run_block)
    | (with_reducible apply run_inBlock)
    | (with_reducible apply run_skip)
    | (with_reducible apply run_exit rfl)
    | ((with_reducible apply run_go); simp only [go_sem, *])
    | ((with_reducible apply run_drawGo (fun _ => false) mixed); (focus kernel_rfl); simp only [go_sem, *])
    | ((with_reducible apply run_cond_t); (focus (simp only [go_sem, *]; done)))
    | ((with_reducible apply run_cond_f); (focus (simp only [go_sem, *]; done)))
    | ((with_reducible apply run_cond); (focus (simp only [go_sem, *]; rfl)); (all_goals intro _))
    | ((with_reducible apply runO_box); (focus (simp only [go_sem, *]; done)); intro pb hpb; (try simp only [Heap.set_none'] at hpb); (with_reducible apply runO_go); simp only [go_sem, *])
    | ((with_reducible apply runO_alloc); (focus (simp only [go_sem, *]; rfl)); intro pb hpb; (try simp only [Heap.set_none'] at hpb); (with_reducible apply runO_go); simp only [go_sem, *])
    | ((with_reducible apply runD_box); (focus (simp only [go_sem, *]; done)); intro pb hpb; (try simp only [Heap.set_none'] at hpb); (with_reducible apply runD_go); simp only [go_sem, *])
    | ((with_reducible apply runD_alloc); (focus (simp only [go_sem, *]; rfl)); intro pb hpb; (try simp only [Heap.set_none'] at hpb); (with_reducible apply runD_go); simp only [go_sem, *])
    | ((with_reducible apply runO_makeMap); intro pb hpb; (try simp only [Heap.set_none'] at hpb); (with_reducible apply runO_go); simp only [go_sem, *])
    | ((with_reducible apply runO_store); (focus (simp only [go_sem]; rfl)); (focus (simp only [go_sem, *]; rfl)); (focus (simp only [go_sem, *]; rfl)); (focus (simp only [go_sem, *]; done)); (focus (simp only [go_sem, *]; done)); (focus (simp only [go_sem, *]; done)); (with_reducible apply runO_go); simp only [go_sem, *, Heap.set_set])
    | ((with_reducible apply runD_store); (focus (simp only [go_sem]; rfl)); (focus (simp only [go_sem, *]; rfl)); (focus (simp only [go_sem, *]; rfl)); (focus (simp only [go_sem, *]; done)); (focus (simp only [go_sem, *]; done)); (focus (simp only [go_sem, *]; done)); (with_reducible apply runD_go); simp only [go_sem, *, Heap.set_set])
    | ((with_reducible apply runD_skipF); (focus rfl); (focus (simp only [go_sem, *]; rfl)); (focus rfl); (with_reducible apply runD_go); simp only [go_sem, *])
    | ((with_reducible apply runO_skipF); (focus (simp only [go_sem, *]; rfl)); (focus rfl); (with_reducible apply runO_go); simp only [go_sem, *])
    | ((first | (with_reducible apply runA_and) | (with_reducible apply runO_and) | (with_reducible apply runD_and)); (focus (first | assumption | (simp only [go_sem, *]; done) | (simp only [go_sem, *]; assumption))); (try simp only [go_sem, *]))
    | ((with_reducible apply runO_callF known43); simp only [go_sem, *]; refine (ci _).use ?_; (with_reducible apply runO_go); simp only [go_sem, *])
    | ((with_reducible apply runO_callFG known43); (focus (simp only [go_sem, *]; rfl)); (focus (intro _; simp only [go_sem, *]; exact ci _)); (with_reducible apply runO_go); simp only [go_sem, *])
    | ((with_reducible apply runD_callF known43); (focus (simp only [go_sem, *]; exact ci _)); (with_reducible apply runD_go); simp only [go_sem, *])
    | ((with_reducible apply runD_callFG known43); (focus rfl); (focus (simp only [go_sem, *]; rfl)); (focus (intro _; simp only [go_sem, *]; exact ci _)); (with_reducible apply runD_go); simp only [go_sem, *])
    | ((with_reducible apply run_ret Try.func39 res39 (H' := H)); (focus (simp only [go_sem, *]; rfl)); (focus trivial); (focus (repeat (first | assumption | exact Heap.sub_refl _ | refine Heap.sub_congr ?_ | refine Heap.sub_set ?_ (by assumption) | refine Heap.sub_set2 ?_ (by first | assumption | (simp only [*]; done) | (simp only [Heap.set_none', ne_eq, *, not_false_eq_true, and_self]; done))))))
    | ((with_reducible apply run_end Try.func39 res39 (H' := H)); (focus (simp only [go_sem, *]; rfl)); (focus trivial); (focus (repeat (first | assumption | exact Heap.sub_refl _ | refine Heap.sub_congr ?_ | refine Heap.sub_set ?_ (by assumption) | refine Heap.sub_set2 ?_ (by first | assumption | (simp only [*]; done) | (simp only [Heap.set_none', ne_eq, *, not_false_eq_true, and_self]; done)))))))
  exact ⟨by rw [Bool.not_not]; rfl, rfl⟩

theorem rows_call (W : World) (H : Heap) (l : List Ev) (hl : l.length ≤ 1000000) :
    CallA Try.prog W 27 [.list (evsC l)] H fun r H' => r = .v (.bool (l.all rightR)) ∧ H' = H := by
  refine call_in Try.func27 rfl Try.ntmps27 (by simp) ?_
  repeat' (first
    | (with_reducible apply run_seq)
    | (with_reducible apply run_block)
    | (with_reducible apply run_inBlock)
    | (with_reducible apply run_skip)
    | (with_reducible apply run_exit rfl)
    | ((with_reducible apply run_go); simp only [go_sem, *])
    | ((with_reducible apply run_drawGo (fun _ => false) mixed); (focus kernel_rfl); simp only [go_sem, *])
    | ((with_reducible apply run_cond_t); (focus (simp only [go_sem, *]; done)))
    | ((with_reducible apply run_cond_f); (focus (simp only [go_sem, *]; done)))
    | ((with_reducible apply run_cond); (focus (simp only [go_sem, *]; rfl)); (all_goals intro _))
    | ((with_reducible apply runO_box); (focus (simp only [go_sem, *]; done)); intro pb hpb; (try simp only [Heap.set_none'] at hpb); (with_reducible apply runO_go); simp only [go_sem, *])
    | ((with_reducible apply runO_alloc); (focus (simp only [go_sem, *]; rfl)); intro pb hpb; (try simp only [Heap.set_none'] at hpb); (with_reducible apply runO_go); simp only [go_sem, *])
    | ((with_reducible apply runD_box); (focus (simp only [go_sem, *]; done)); intro pb hpb; (try simp only [Heap.set_none'] at hpb); (with_reducible apply runD_go); simp only [go_sem, *])
    | ((with_reducible apply runD_alloc); (focus (simp only [go_sem, *]; rfl)); intro pb hpb; (try simp only [Heap.set_none'] at hpb); (with_reducible apply runD_go); simp only [go_sem, *])
    | ((with_reducible apply runO_makeMap); intro pb hpb; (try simp only [Heap.set_none'] at hpb); (with_reducible apply runO_go); simp only [go_sem, *])
    | ((with_reducible apply runO_store); (focus (simp only [go_sem]; rfl)); (focus (simp only [go_sem, *]; rfl)); (focus (simp only [go_sem, *]; rfl)); (focus (simp only [go_sem, *]; done)); (focus (simp only [go_sem, *]; done)); (focus (simp only [go_sem, *]; done)); (with_reducible apply runO_go); simp only [go_sem, *, Heap.set_set])
    | ((with_reducible apply runD_store); (focus (simp only [go_sem]; rfl)); (focus (simp only [go_sem, *]; rfl)); (focus (simp only [go_sem, *]; rfl)); (focus (simp only [go_sem, *]; done)); (focus (simp only [go_sem, *]; done)); (focus (simp only [go_sem, *]; done)); (with_reducible apply runD_go); simp only [go_sem, *, Heap.set_set])
    | ((with_reducible apply runD_skipF); (focus rfl); (focus (simp only [go_sem, *]; rfl)); (focus rfl); (with_reducible apply runD_go); simp only [go_sem, *])
    | ((with_reducible apply runO_skipF); (focus (simp only [go_sem, *]; rfl)); (focus rfl); (with_reducible apply runO_go); simp only [go_sem, *])
    | ((first | (with_reducible apply runA_and) | (with_reducible apply runO_and) | (with_reducible apply runD_and)); (focus (first | assumption | (simp only [go_sem, *]; done) | (simp only [go_sem, *]; assumption))); (try simp only [go_sem, *]))
    | ((with_reducible apply run_ret Try.func27 res27 (H' := H)); (focus (simp only [go_sem, *]; rfl)); (focus trivial); (focus (repeat (first | assumption | exact Heap.sub_refl _ | refine Heap.sub_congr ?_ | refine Heap.sub_set ?_ (by assumption) | refine Heap.sub_set2 ?_ (by first | assumption | (simp only [*]; done) | (simp only [Heap.set_none', ne_eq, *, not_false_eq_true, and_self]; done))))))
    | ((with_reducible apply run_end Try.func27 res27 (H' := H)); (focus (simp only [go_sem, *]; rfl)); (focus trivial); (focus (repeat (first | assumption | exact Heap.sub_refl _ | refine Heap.sub_congr ?_ | refine Heap.sub_set ?_ (by assumption) | refine Heap.sub_set2 ?_ (by first | assumption | (simp only [*]; done) | (simp only [Heap.set_none', ne_eq, *, not_false_eq_true, and_self]; done)))))))
  refine run_loop (fun n e H' => ∃ k : Nat, k ≤ l.length ∧ n = l.length - k ∧ (l.take k).all rightR = true ∧ e 0 = .list (evsC l) ∧ e 3 = .v (.int .i64 (k : Int)) ∧ H = H') l.length
      ⟨0, Nat.zero_le _, rfl, rfl, (by simp only [go_sem, *]), by simp only [go_sem] <;> rfl, rfl⟩ ?_
  rintro n e H' ih ⟨k, hk, rfl, hall, h0, h3, rfl⟩
  have IH : Hid _ := ih
  clear ih
  have HA : Hid _ := hall
  clear hall
  by_cases hlt : k < l.length
  · have hw : IntKind.i64.wrap ((k : Int) + 1) = ((k + 1 : Nat) : Int) := by rw [wrap_nat (by omega) (by omega)]; rfl
    by_cases hr : rightR (l.getD k default) = true
    · repeat' (first
    | (with_reducible apply run_seq)
    | (with_reducible apply run_block)
    | (with_reducible apply run_inBlock)
    | (with_reducible apply run_skip)
    | (with_reducible apply run_exit rfl)
    | ((with_reducible apply run_go); simp only [go_sem, *])
    | ((with_reducible apply run_drawGo (fun _ => false) mixed); (focus kernel_rfl); simp only [go_sem, *])
    | ((with_reducible apply run_cond_t); (focus (simp only [go_sem, *]; done)))
    | ((with_reducible apply run_cond_f); (focus (simp only [go_sem, *]; done)))
    | ((with_reducible apply run_cond); (focus (simp only [go_sem, *]; rfl)); (all_goals intro _))
    | ((with_reducible apply runO_box); (focus (simp only [go_sem, *]; done)); intro pb hpb; (try simp only [Heap.set_none'] at hpb); (with_reducible apply runO_go); simp only [go_sem, *])
    | ((with_reducible apply runO_alloc); (focus (simp only [go_sem, *]; rfl)); intro pb hpb; (try simp only [Heap.set_none'] at hpb); (with_reducible apply runO_go); simp only [go_sem, *])
    | ((with_reducible apply runD_box); (focus (simp only [go_sem, *]; done)); intro pb hpb; (try simp only [Heap.set_none'] at hpb); (with_reducible apply runD_go); simp only [go_sem, *])
    | ((with_reducible apply runD_alloc); (focus (simp only [go_sem, *]; rfl)); intro pb hpb; (try simp only [Heap.set_none'] at hpb); (with_reducible apply runD_go); simp only [go_sem, *])
    | ((with_reducible apply runO_makeMap); intro pb hpb; (try simp only [Heap.set_none'] at hpb); (with_reducible apply runO_go); simp only [go_sem, *])
    | ((with_reducible apply runO_store); (focus (simp only [go_sem]; rfl)); (focus (simp only [go_sem, *]; rfl)); (focus (simp only [go_sem, *]; rfl)); (focus (simp only [go_sem, *]; done)); (focus (simp only [go_sem, *]; done)); (focus (simp only [go_sem, *]; done)); (with_reducible apply runO_go); simp only [go_sem, *, Heap.set_set])
    | ((with_reducible apply runD_store); (focus (simp only [go_sem]; rfl)); (focus (simp only [go_sem, *]; rfl)); (focus (simp only [go_sem, *]; rfl)); (focus (simp only [go_sem, *]; done)); (focus (simp only [go_sem, *]; done)); (focus (simp only [go_sem, *]; done)); (with_reducible apply runD_go); simp only [go_sem, *, Heap.set_set])
    | ((with_reducible apply runD_skipF); (focus rfl); (focus (simp only [go_sem, *]; rfl)); (focus rfl); (with_reducible apply runD_go); simp only [go_sem, *])
    | ((with_reducible apply runO_skipF); (focus (simp only [go_sem, *]; rfl)); (focus rfl); (with_reducible apply runO_go); simp only [go_sem, *])
    | ((first | (with_reducible apply runA_and) | (with_reducible apply runO_and) | (with_reducible apply runD_and)); (focus (first | assumption | (simp only [go_sem, *]; done) | (simp only [go_sem, *]; assumption))); (try simp only [go_sem, *]))
    | ((with_reducible apply runO_callF known25); simp only [go_sem, *]; refine (rightR_call W _ _).use ?_; (with_reducible apply runO_go); simp only [go_sem, *])
    | ((with_reducible apply runO_callFG known25); (focus (simp only [go_sem, *]; rfl)); (focus (intro _; simp only [go_sem, *]; exact rightR_call W _ _)); (with_reducible apply runO_go); simp only [go_sem, *])
    | ((with_reducible apply runD_callF known25); (focus (simp only [go_sem, *]; exact rightR_call W _ _)); (with_reducible apply runD_go); simp only [go_sem, *])
    | ((with_reducible apply runD_callFG known25); (focus rfl); (focus (simp only [go_sem, *]; rfl)); (focus (intro _; simp only [go_sem, *]; exact rightR_call W _ _)); (with_reducible apply runD_go); simp only [go_sem, *])
    | ((with_reducible apply run_ret Try.func27 res27 (H' := H)); (focus (simp only [go_sem, *]; rfl)); (focus trivial); (focus (repeat (first | assumption | exact Heap.sub_refl _ | refine Heap.sub_congr ?_ | refine Heap.sub_set ?_ (by assumption) | refine Heap.sub_set2 ?_ (by first | assumption | (simp only [*]; done) | (simp only [Heap.set_none', ne_eq, *, not_false_eq_true, and_self]; done))))))
    | ((with_reducible apply run_end Try.func27 res27 (H' := H)); (focus (simp only [go_sem, *]; rfl)); (focus trivial); (focus (repeat (first | assumption | exact Heap.sub_refl _ | refine Heap.sub_congr ?_ | refine Heap.sub_set ?_ (by assumption) | refine Heap.sub_set2 ?_ (by first | assumption | (simp only [*]; done) | (simp only [Heap.set_none', ne_eq, *, not_false_eq_true, and_self]; done)))))))
      refine IH.out (l.length - (k + 1)) _ _ (by omega) ⟨k + 1, by omega, rfl, all_take_succ hlt HA.out hr, (by simp only [go_sem, *]), (by simp only [go_sem, *]), rfl⟩
    · have hr' : rightR (l.getD k default) = false := by simpa using hr
      repeat' (first
    | (with_reducible apply run_seq)
    | (with_reducible apply run_block)
    | (with_reducible apply run_inBlock)
    | (with_reducible apply run_skip)
    | (with_reducible apply run_exit rfl)
    | ((with_reducible apply run_go); simp only [go_sem, *])
    | ((with_reducible apply run_drawGo (fun _ => false) mixed); (focus kernel_rfl); simp only [go_sem, *])
    | ((with_reducible apply run_cond_t); (focus (simp only [go_sem, *]; done)))
    | ((with_reducible apply run_cond_f); (focus (simp only [go_sem, *]; done)))
    | ((with_reducible apply run_cond); (focus (simp only [go_sem, *]; rfl)); (all_goals intro _))
    | ((with_reducible apply runO_box); (focus (simp only [go_sem, *]; done)); intro pb hpb; (try simp only [Heap.set_none'] at hpb); (with_reducible apply runO_go); simp only [go_sem, *])
    | ((with_reducible apply runO_alloc); (focus (simp only [go_sem, *]; rfl)); intro pb hpb; (try simp only [Heap.set_none'] at hpb); (with_reducible apply runO_go); simp only [go_sem, *])
    | ((with_reducible apply runD_box); (focus (simp only [go_sem, *]; done)); intro pb hpb; (try simp only [Heap.set_none'] at hpb); (with_reducible apply runD_go); simp only [go_sem, *])
    | ((with_reducible apply runD_alloc); (focus (simp only [go_sem, *]; rfl)); intro pb hpb; (try simp only [Heap.set_none'] at hpb); (with_reducible apply runD_go); simp only [go_sem, *])
    | ((with_reducible apply runO_makeMap); intro pb hpb; (try simp only [Heap.set_none'] at hpb); (with_reducible apply runO_go); simp only [go_sem, *])
    | ((with_reducible apply runO_store); (focus (simp only [go_sem]; rfl)); (focus (simp only [go_sem, *]; rfl)); (focus (simp only [go_sem, *]; rfl)); (focus (simp only [go_sem, *]; done)); (focus (simp only [go_sem, *]; done)); (focus (simp only [go_sem, *]; done)); (with_reducible apply runO_go); simp only [go_sem, *, Heap.set_set])
    | ((with_reducible apply runD_store); (focus (simp only [go_sem]; rfl)); (focus (simp only [go_sem, *]; rfl)); (focus (simp only [go_sem, *]; rfl)); (focus (simp only [go_sem, *]; done)); (focus (simp only [go_sem, *]; done)); (focus (simp only [go_sem, *]; done)); (with_reducible apply runD_go); simp only [go_sem, *, Heap.set_set])
    | ((with_reducible apply runD_skipF); (focus rfl); (focus (simp only [go_sem, *]; rfl)); (focus rfl); (with_reducible apply runD_go); simp only [go_sem, *])
    | ((with_reducible apply runO_skipF); (focus (simp only [go_sem, *]; rfl)); (focus rfl); (with_reducible apply runO_go); simp only [go_sem, *])
    | ((first | (with_reducible apply runA_and) | (with_reducible apply runO_and) | (with_reducible apply runD_and)); (focus (first | assumption | (simp only [go_sem, *]; done) | (simp only [go_sem, *]; assumption))); (try simp only [go_sem, *]))
    | ((with_reducible apply runO_callF known25); simp only [go_sem, *]; refine (rightR_call W _ _).use ?_; (with_reducible apply runO_go); simp only [go_sem, *])
    | ((with_reducible apply runO_callFG known25); (focus (simp only [go_sem, *]; rfl)); (focus (intro _; simp only [go_sem, *]; exact rightR_call W _ _)); (with_reducible apply runO_go); simp only [go_sem, *])
    | ((with_reducible apply runD_callF known25); (focus (simp only [go_sem, *]; exact rightR_call W _ _)); (with_reducible apply runD_go); simp only [go_sem, *])
    | ((with_reducible apply runD_callFG known25); (focus rfl); (focus (simp only [go_sem, *]; rfl)); (focus (intro _; simp only [go_sem, *]; exact rightR_call W _ _)); (with_reducible apply runD_go); simp only [go_sem, *])
    | ((with_reducible apply run_ret Try.func27 res27 (H' := H)); (focus (simp only [go_sem, *]; rfl)); (focus trivial); (focus (repeat (first | assumption | exact Heap.sub_refl _ | refine Heap.sub_congr ?_ | refine Heap.sub_set ?_ (by assumption) | refine Heap.sub_set2 ?_ (by first | assumption | (simp only [*]; done) | (simp only [Heap.set_none', ne_eq, *, not_false_eq_true, and_self]; done))))))
    | ((with_reducible apply run_end Try.func27 res27 (H' := H)); (focus (simp only [go_sem, *]; rfl)); (focus trivial); (focus (repeat (first | assumption | exact Heap.sub_refl _ | refine Heap.sub_congr ?_ | refine Heap.sub_set ?_ (by assumption) | refine Heap.sub_set2 ?_ (by first | assumption | (simp only [*]; done) | (simp only [Heap.set_none', ne_eq, *, not_false_eq_true, and_self]; done)))))))
      exact ⟨by rw [all_not hlt hr']; rfl, rfl⟩
  · repeat' (first
    | (with_reducible apply run_seq)
    | (with_reducible apply run_block)
    | (with_reducible apply run_inBlock)
    | (with_reducible apply run_skip)
    | (with_reducible apply run_exit rfl)
    | ((with_reducible apply run_go); simp only [go_sem, *])
    | ((with_reducible apply run_drawGo (fun _ => false) mixed); (focus kernel_rfl); simp only [go_sem, *])
    | ((with_reducible apply run_cond_t); (focus (simp only [go_sem, *]; done)))
    | ((with_reducible apply run_cond_f); (focus (simp only [go_sem, *]; done)))
    | ((with_reducible apply run_cond); (focus (simp only [go_sem, *]; rfl)); (all_goals intro _))
    | ((with_reducible apply runO_box); (focus (simp only [go_sem, *]; done)); intro pb hpb; (try simp only [Heap.set_none'] at hpb); (with_reducible apply runO_go); simp only [go_sem, *])
    | ((with_reducible apply runO_alloc); (focus (simp only [go_sem, *]; rfl)); intro pb hpb; (try simp only [Heap.set_none'] at hpb); (with_reducible apply runO_go); simp only [go_sem, *])
    | ((with_reducible apply runD_box); (focus (simp only [go_sem, *]; done)); intro pb hpb; (try simp only [Heap.set_none'] at hpb); (with_reducible apply runD_go); simp only [go_sem, *])
    | ((with_reducible apply runD_alloc); (focus (simp only [go_sem, *]; rfl)); intro pb hpb; (try simp only [Heap.set_none'] at hpb); (with_reducible apply runD_go); simp only [go_sem, *])
    | ((with_reducible apply runO_makeMap); intro pb hpb; (try simp only [Heap.set_none'] at hpb); (with_reducible apply runO_go); simp only [go_sem, *])
    | ((with_reducible apply runO_store); (focus (simp only [go_sem]; rfl)); (focus (simp only [go_sem, *]; rfl)); (focus (simp only [go_sem, *]; rfl)); (focus (simp only [go_sem, *]; done)); (focus (simp only [go_sem, *]; done)); (focus (simp only [go_sem, *]; done)); (with_reducible apply runO_go); simp only [go_sem, *, Heap.set_set])
    | ((with_reducible apply runD_store); (focus (simp only [go_sem]; rfl)); (focus (simp only [go_sem, *]; rfl)); (focus (simp only [go_sem, *]; rfl)); (focus (simp only [go_sem, *]; done)); (focus (simp only [go_sem, *]; done)); (focus (simp only [go_sem, *]; done)); (with_reducible apply runD_go); simp only [go_sem, *, Heap.set_set])
    | ((with_reducible apply runD_skipF); (focus rfl); (focus (simp only [go_sem, *]; rfl)); (focus rfl); (with_reducible apply runD_go); simp only [go_sem, *])
    | ((with_reducible apply runO_skipF); (focus (simp only [go_sem, *]; rfl)); (focus rfl); (with_reducible apply runO_go); simp only [go_sem, *])
    | ((first | (with_reducible apply runA_and) | (with_reducible apply runO_and) | (with_reducible apply runD_and)); (focus (first | assumption | (simp only [go_sem, *]; done) | (simp only [go_sem, *]; assumption))); (try simp only [go_sem, *]))
    | ((with_reducible apply run_ret Try.func27 res27 (H' := H)); (focus (simp only [go_sem, *]; rfl)); (focus trivial); (focus (repeat (first | assumption | exact Heap.sub_refl _ | refine Heap.sub_congr ?_ | refine Heap.sub_set ?_ (by assumption) | refine Heap.sub_set2 ?_ (by first | assumption | (simp only [*]; done) | (simp only [Heap.set_none', ne_eq, *, not_false_eq_true, and_self]; done))))))
    | ((with_reducible apply run_end Try.func27 res27 (H' := H)); (focus (simp only [go_sem, *]; rfl)); (focus trivial); (focus (repeat (first | assumption | exact Heap.sub_refl _ | refine Heap.sub_congr ?_ | refine Heap.sub_set ?_ (by assumption) | refine Heap.sub_set2 ?_ (by first | assumption | (simp only [*]; done) | (simp only [Heap.set_none', ne_eq, *, not_false_eq_true, and_self]; done)))))))
    have ha := HA.out
    rw [List.take_of_length_le (Nat.not_lt.1 hlt)] at ha
    exact ⟨by rw [ha]; rfl, rfl⟩
end Go.Proofs.Ytakaimfpicjpaaa
