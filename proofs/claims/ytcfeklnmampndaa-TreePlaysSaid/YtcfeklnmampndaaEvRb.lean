/-
  Contract: the document's words of who depends on whom.
-/
import Derived.Test.YtcfeklnmampndaaEvD
import Derived.Test.YtcfeklnmampndaaSaI
set_option linter.unusedSimpArgs false
set_option linter.unusedVariables false
namespace Go.Proofs.Ytcfeklnmampndaa
open Go Go.Sn Go.RowKit

/-- The document's words. -/
def depR (a b : Ev) : Bool :=
  decide (a.th = b.th) || !(!decide (a.ob = b.ob)) &&
    (((decide (a.kd = 2) || decide (a.kd = 3)) && (decide (b.kd = 2) || decide (b.kd = 3))) && (decide (a.kd = 3) || decide (b.kd = 3)) || (decide (a.kd = 4) || decide (a.kd = 5)) && (decide (b.kd = 4) || decide (b.kd = 5)))
theorem depR_call (W : World) (H : Heap) (a b : Ev) :
    CallA Try.prog W 62 [.agg (evC a), .agg (evC b)] H fun r H' => r = .v (.bool (depR a b)) ∧ H' = H := by
  refine call_in Try.func62 rfl Try.ntmps62 (by simp) ?_
  unfold evC
  repeat' (first
    | (with_reducible apply run_seq)
    | (with_reducible apply run_block)
    | (with_reducible apply run_inBlock)
    | (with_reducible apply run_skip)
    | (with_reducible apply run_exit rfl)
    | ((with_reducible apply run_go); simp only [go_sem, *])
    | ((with_reducible apply run_cond_t); (focus (simp only [go_sem, *]; done)))
    | ((with_reducible apply run_cond_f); (focus (simp only [go_sem, *]; done)))
    | ((with_reducible apply run_cond); (focus (simp only [go_sem, *]; rfl)); (all_goals intro _))
    | ((with_reducible apply runO_box); (focus (simp only [go_sem, *]; done)); intro pb hpb; have hfb := Heap.ne_of_none hpb; (try simp only [Heap.set_none'] at hpb); (with_reducible apply runO_go); simp only [go_sem, *])
    | ((with_reducible apply runO_skipF); (focus (simp only [go_sem, *]; rfl)); (focus rfl); (with_reducible apply runO_go); simp only [go_sem, *])
    | ((first | (with_reducible apply runA_and) | (with_reducible apply runO_and) | (with_reducible apply runD_and)); (focus (first | assumption | (simp only [go_sem, *]; done) | (simp only [go_sem, *]; assumption))); (try simp only [go_sem, *]))
    | ((with_reducible apply run_ret Try.func62 res62 (H' := H)); (focus (simp only [go_sem, *]; rfl)); (focus trivial); (focus (repeat (first | assumption | exact Heap.sub_refl _ | refine Heap.sub_congr ?_ | refine Heap.sub_set ?_ (by assumption) | refine Heap.sub_set2 ?_ (by first | assumption | (simp only [*]; done) | (simp only [Heap.set_none', ne_eq, *, not_false_eq_true, and_self]; done)))))))
  all_goals (refine ⟨?_, rfl⟩; simp only [depR, tupA, *]; simp)
theorem dep_eq (a b : Ev) : depE a b = depR a b := by
  unfold depE depR clsE
  by_cases h : a.th = b.th
  · simp [h]
  · by_cases h' : a.ob = b.ob
    · rw [Bool.eq_iff_iff]
      simp only [h, h', decide_true, decide_false, Bool.false_or, Bool.not_true, Bool.or_false, Bool.not_false, Bool.true_and, Bool.or_eq_true, Bool.and_eq_true, Bool.not_eq_true', Bool.or_eq_false_iff, decide_eq_true_eq, decide_eq_false_iff_not, Bool.not_eq_false', Bool.not_eq_true]
      (repeat' split) <;> omega
    · simp [h, h']
end Go.Proofs.Ytcfeklnmampndaa
