/-
  Contracts: what may be, of rows of events, as the races ask it.
-/
import Derived.Test.YtobdagjdhgjplaaClkAS
set_option linter.unusedSimpArgs false
set_option linter.unusedVariables false
namespace Go.Proofs.Ytobdagjdhgjplaa
open Go Go.Sn Go.RowKit

theorem rightQ_call (W : World) (H : Heap) (e : Ev) :
    CallA Try.prog W 78 [.agg (evC e)] H fun r H' => r = .v (.bool (!rightR e)) ∧ H' = H := by
  refine call_in Try.func78 rfl Try.ntmps78 (by simp) ?_
  have cr := right_call W
  simp only [right_eq] at cr
  repeat' (first
    | (with_reducible apply run_seq)
    | ((with_reducible apply run_go); simp only [go_sem, *])
    | ((with_reducible apply runO_box); (focus (simp only [go_sem, *]; done)); intro pb hpb; have hfb := Heap.ne_of_none hpb; (try simp only [Heap.set_none'] at hpb); (with_reducible apply runO_go); simp only [go_sem, *])
    | ((with_reducible apply runO_callF known79); simp only [go_sem, *]; refine (cr _ e).use ?_; (with_reducible apply runO_go); simp only [go_sem, *])
    | ((with_reducible apply run_ret Try.func78 res78 (H' := H)); (focus (simp only [go_sem, *]; rfl)); (focus trivial); (focus (repeat (first | assumption | exact Heap.sub_refl _ | refine Heap.sub_congr ?_ | refine Heap.sub_set ?_ (by assumption) | refine Heap.sub_set2 ?_ (by first | assumption | (simp only [*]; done) | (simp only [Heap.set_none', ne_eq, *, not_false_eq_true, and_self]; done)))))))
  exact ⟨rfl, rfl⟩

theorem indexQ_call (W : World) (H : Heap) (l : List Ev) (hl : l.length ≤ 1000000) :
    CallA Try.prog W 92 [.list (evsC l), .v (.func (.func 78) #[] #[])] H fun r H' => r = .v (.int .i64 (badAt l)) ∧ H' = H := by
  refine call_in Try.func92 rfl Try.ntmps92 (by simp) ?_
  repeat' (first
    | (with_reducible apply run_seq)
    | (with_reducible apply run_block)
    | ((with_reducible apply run_go); simp only [go_sem, *]))
  refine run_loop (fun n e H' => ∃ k : Nat, k ≤ l.length ∧ n = l.length - k ∧ (l.take k).all rightR = true ∧ e 0 = .list (evsC l) ∧ e 1 = .v (.func (.func 78) #[] #[]) ∧ e 7 = .v (.int .i64 (l.length : Int)) ∧ e 8 = .v (.int .i64 (k : Int)) ∧ H = H') l.length
      ⟨0, Nat.zero_le _, rfl, rfl, (by simp only [go_sem, *]), (by simp only [go_sem, *]), (by simp only [go_sem, *]), by simp only [go_sem] <;> rfl, rfl⟩ ?_
  rintro n e H' ih ⟨k, hk, rfl, hall, h0, h1, h7, h8, rfl⟩
  have IH : Hid _ := ih
  clear ih
  have HA : Hid _ := hall
  clear hall
  by_cases hlt : k < l.length
  · have hw : IntKind.i64.wrap ((k : Int) + 1) = ((k + 1 : Nat) : Int) := by rw [wrap_nat (by omega) (by omega)]; rfl
    by_cases hr : rightR (l.getD k default) = true
    · repeat' (first
    | (with_reducible apply run_seq)
    | (with_reducible apply run_block)
    | (with_reducible apply run_inBlock)
    | (with_reducible apply run_skip)
    | ((with_reducible apply run_go); simp only [go_sem, *])
    | ((with_reducible apply run_cond_t); (focus (simp only [go_sem, *]; done)))
    | ((with_reducible apply run_cond_f); (focus (simp only [go_sem, *]; done)))
    | ((with_reducible apply runO_callV); (focus (simp only [go_sem, *]; rfl)); (focus (exact known78)); simp only [go_sem, *]; refine (rightQ_call W _ _).use ?_; (with_reducible apply runO_go); simp only [go_sem, *]))
      refine IH.out (l.length - (k + 1)) _ _ (by omega) ⟨k + 1, by omega, rfl, all_take_succ hlt HA.out hr, (by simp only [go_sem, *]), (by simp only [go_sem, *]), (by simp only [go_sem, *]), (by simp only [go_sem, *]), rfl⟩
    · have hr' : rightR (l.getD k default) = false := by simpa using hr
      repeat' (first
    | (with_reducible apply run_seq)
    | (with_reducible apply run_block)
    | (with_reducible apply run_skip)
    | ((with_reducible apply run_go); simp only [go_sem, *])
    | ((with_reducible apply run_cond_t); (focus (simp only [go_sem, *]; done)))
    | ((with_reducible apply runO_callV); (focus (simp only [go_sem, *]; rfl)); (focus (exact known78)); simp only [go_sem, *]; refine (rightQ_call W _ _).use ?_; (with_reducible apply runO_go); simp only [go_sem, *])
    | ((with_reducible apply run_ret Try.func92 res92 (H' := H)); (focus (simp only [go_sem, *]; rfl)); (focus trivial); (focus (repeat (first | assumption | exact Heap.sub_refl _ | refine Heap.sub_congr ?_ | refine Heap.sub_set ?_ (by assumption) | refine Heap.sub_set2 ?_ (by first | assumption | (simp only [*]; done) | (simp only [Heap.set_none', ne_eq, *, not_false_eq_true, and_self]; done)))))))
      exact ⟨by rw [badAt_of hlt HA.out hr']; rfl, rfl⟩
  · repeat' (first
    | (with_reducible apply run_seq)
    | (with_reducible apply run_exit rfl)
    | ((with_reducible apply run_go); simp only [go_sem, *])
    | ((with_reducible apply run_cond_f); (focus (simp only [go_sem, *]; done)))
    | ((with_reducible apply run_ret Try.func92 res92 (H' := H)); (focus (simp only [go_sem, *]; rfl)); (focus trivial); (focus (repeat (first | assumption | exact Heap.sub_refl _ | refine Heap.sub_congr ?_ | refine Heap.sub_set ?_ (by assumption) | refine Heap.sub_set2 ?_ (by first | assumption | (simp only [*]; done) | (simp only [Heap.set_none', ne_eq, *, not_false_eq_true, and_self]; done)))))))
    have ha := HA.out
    rw [List.take_of_length_le (Nat.not_lt.1 hlt)] at ha
    exact ⟨by rw [badAt, if_pos ha]; rfl, rfl⟩

theorem containsQ_call (W : World) (H : Heap) (l : List Ev) (hl : l.length ≤ 1000000) :
    CallA Try.prog W 77 [.list (evsC l), .v (.func (.func 78) #[] #[])] H fun r H' => r = .v (.bool (!l.all rightR)) ∧ H' = H := by
  refine call_in Try.func77 rfl Try.ntmps77 (by simp) ?_
  have ci := fun H => indexQ_call W H l hl
  repeat' (first
    | (with_reducible apply run_seq)
    | ((with_reducible apply run_go); simp only [go_sem, *])
    | ((with_reducible apply runO_callF known92); simp only [go_sem, *]; refine (ci _).use ?_; (with_reducible apply runO_go); simp only [go_sem, *])
    | ((with_reducible apply run_ret Try.func77 res77 (H' := H)); (focus (simp only [go_sem, *]; rfl)); (focus trivial); (focus (repeat (first | assumption | exact Heap.sub_refl _ | refine Heap.sub_congr ?_ | refine Heap.sub_set ?_ (by assumption) | refine Heap.sub_set2 ?_ (by first | assumption | (simp only [*]; done) | (simp only [Heap.set_none', ne_eq, *, not_false_eq_true, and_self]; done)))))))
  refine ⟨?_, rfl⟩
  have : decide (0 ≤ badAt l) = !l.all rightR := by
    unfold badAt
    split
    · rename_i h; simp [h]
    · rename_i h; simp [h]
  rw [this]; rfl

theorem rightsQ_call (W : World) (H : Heap) (l : List Ev) (hl : l.length ≤ 1000000) :
    CallA Try.prog W 59 [.list (evsC l)] H fun r H' => r = .v (.bool (l.all rightR)) ∧ H' = H := by
  refine call_in Try.func59 rfl Try.ntmps59 (by simp) ?_
  have ci := fun H => containsQ_call W H l hl
  repeat' (first
    | (with_reducible apply run_seq)
    | ((with_reducible apply run_go); simp only [go_sem, *])
    | ((with_reducible apply runO_callF known77); simp only [go_sem, *]; refine (ci _).use ?_; (with_reducible apply runO_go); simp only [go_sem, *])
    | ((with_reducible apply run_ret Try.func59 res59 (H' := H)); (focus (simp only [go_sem, *]; rfl)); (focus trivial); (focus (repeat (first | assumption | exact Heap.sub_refl _ | refine Heap.sub_congr ?_ | refine Heap.sub_set ?_ (by assumption) | refine Heap.sub_set2 ?_ (by first | assumption | (simp only [*]; done) | (simp only [Heap.set_none', ne_eq, *, not_false_eq_true, and_self]; done)))))))
  exact ⟨by rw [Bool.not_not]; rfl, rfl⟩
end Go.Proofs.Ytobdagjdhgjplaa
