/-
  Contracts: lists of numbers, the same.
-/
import Derived.Test.YtcfeklnmampndaaBase
set_option linter.unusedSimpArgs false
set_option linter.unusedVariables false
namespace Go.Proofs.Ytcfeklnmampndaa
open Go Go.Sn Go.RowKit

theorem sameInts_call (W : World) (H : Heap) (a b : List Int) (ha : a.length ≤ 1000000) :
    CallA Try.prog W 19 [.list (intsC a), .list (intsC b)] H fun r H' => r = .v (.bool (decide (a = b))) ∧ H' = H := by
  refine call_in Try.func19 rfl Try.ntmps19 (by simp) ?_
  by_cases hl : a.length = b.length
  · repeat' (first
    | (with_reducible apply run_seq)
    | (with_reducible apply run_block)
    | (with_reducible apply run_skip)
    | ((with_reducible apply run_go); simp only [go_sem, *])
    | ((with_reducible apply run_cond_f); (focus (simp only [go_sem, *]; done))))
    refine run_loop (fun n e H' => ∃ k : Nat, k ≤ a.length ∧ n = a.length - k ∧ a.take k = b.take k ∧ e 0 = .list (intsC a) ∧ e 1 = .list (intsC b) ∧ e 5 = .v (.int .i64 (k : Int)) ∧ H = H') a.length
      ⟨0, Nat.zero_le _, rfl, rfl, (by simp only [go_sem, *]), (by simp only [go_sem, *]), by simp only [go_sem] <;> rfl, rfl⟩ ?_
    rintro n e H' ih ⟨k, hk, rfl, ht, h0, h1, h5, rfl⟩
    have IH : Hid _ := ih
    clear ih
    have hl1 : a.length ≤ b.length := by omega
    have hl2 : b.length ≤ a.length := by omega
    clear hl
    by_cases hlt : k < a.length
    · have hlt' : k < b.length := by omega
      have ta := take_succ_getD a k hlt
      have tb := take_succ_getD b k hlt'
      have hw : IntKind.i64.wrap ((k : Int) + 1) = ((k + 1 : Nat) : Int) := by rw [wrap_nat (by omega) (by omega)]; rfl
      by_cases he : a.getD k default = b.getD k default
      · repeat' (first
    | (with_reducible apply run_seq)
    | (with_reducible apply run_block)
    | (with_reducible apply run_inBlock)
    | (with_reducible apply run_skip)
    | ((with_reducible apply run_go); simp only [go_sem, *])
    | ((with_reducible apply run_drawGo Cl.zero Cl.zero_plain mixed); (focus kernel_rfl); simp only [go_sem, *])
    | ((with_reducible apply run_cond_t); (focus (simp only [go_sem, *]; done)))
    | ((with_reducible apply run_cond_f); (focus (simp only [go_sem, *]; done))))
        exact IH.out (a.length - (k + 1)) _ _ (by omega) ⟨k + 1, by omega, rfl, by rw [ta, tb, ht, he], (by simp only [go_sem, *]), (by simp only [go_sem, *]), (by simp only [go_sem, *]), rfl⟩
      · repeat' (first
    | (with_reducible apply run_seq)
    | (with_reducible apply run_block)
    | (with_reducible apply run_skip)
    | ((with_reducible apply run_go); simp only [go_sem, *])
    | ((with_reducible apply run_drawGo Cl.zero Cl.zero_plain mixed); (focus kernel_rfl); simp only [go_sem, *])
    | ((with_reducible apply run_cond_t); (focus (simp only [go_sem, *]; done)))
    | ((with_reducible apply run_ret Try.func19 res19 (H' := H)); (focus (simp only [go_sem, *]; rfl)); (focus trivial); (focus (repeat (first | assumption | exact Heap.sub_refl _ | refine Heap.sub_congr ?_ | refine Heap.sub_set ?_ (by assumption) | refine Heap.sub_set2 ?_ (by first | assumption | (simp only [*]; done) | (simp only [Heap.set_none', ne_eq, *, not_false_eq_true, and_self]; done)))))))
        refine ⟨?_, rfl⟩
        have : a ≠ b := fun e => he (by rw [e])
        simp only [tupA, this, decide_false]
    · repeat' (first
    | (with_reducible apply run_seq)
    | (with_reducible apply run_exit rfl)
    | ((with_reducible apply run_go); simp only [go_sem, *])
    | ((with_reducible apply run_cond_f); (focus (simp only [go_sem, *]; done)))
    | ((with_reducible apply run_ret Try.func19 res19 (H' := H)); (focus (simp only [go_sem, *]; rfl)); (focus trivial); (focus (repeat (first | assumption | exact Heap.sub_refl _ | refine Heap.sub_congr ?_ | refine Heap.sub_set ?_ (by assumption) | refine Heap.sub_set2 ?_ (by first | assumption | (simp only [*]; done) | (simp only [Heap.set_none', ne_eq, *, not_false_eq_true, and_self]; done)))))))
      refine ⟨?_, rfl⟩
      have : a = b := by rw [← List.take_of_length_le (Nat.not_lt.1 hlt), ht, List.take_of_length_le (by omega)]
      simp only [tupA, this, decide_true]
  · have hne : a ≠ b := fun e => hl (by rw [e])
    repeat' (first
    | (with_reducible apply run_seq)
    | ((with_reducible apply run_go); simp only [go_sem, *])
    | ((with_reducible apply run_cond_t); (focus (simp only [go_sem, *]; done)))
    | ((with_reducible apply run_ret Try.func19 res19 (H' := H)); (focus (simp only [go_sem, *]; rfl)); (focus trivial); (focus (repeat (first | assumption | exact Heap.sub_refl _ | refine Heap.sub_congr ?_ | refine Heap.sub_set ?_ (by assumption) | refine Heap.sub_set2 ?_ (by first | assumption | (simp only [*]; done) | (simp only [Heap.set_none', ne_eq, *, not_false_eq_true, and_self]; done)))))))
    refine ⟨?_, rfl⟩
    simp only [tupA, hne, decide_false]
end Go.Proofs.Ytcfeklnmampndaa
