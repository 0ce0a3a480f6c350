/-
  Contracts: events: which ones may be.
-/
import Derived.Test.YtobdagjdhgjplaaEvD
import Derived.Test.YtobdagjdhgjplaaSaI
set_option linter.unusedSimpArgs false
set_option linter.unusedVariables false
namespace Go.Proofs.Ytobdagjdhgjplaa
open Go Go.Sn Go.RowKit

/-- Whether an event may be. -/
def rightE (e : Ev) : Bool :=
  let up : Int := if clsE e.kd = 1 then 4 else if clsE e.kd = 2 then 2 else 1
  !(decide (e.th < 0) || decide (4 ≤ e.th) || decide (e.kd < 1) || decide (5 < e.kd) || decide (e.ob < 0) || decide (up ≤ e.ob)) && (!e.fl || decide (e.kd = 1))
theorem right_call (W : World) (H : Heap) (e : Ev) :
    CallA Try.prog W 79 [.agg (evC e)] H fun r H' => r = .v (.bool (rightE e)) ∧ H' = H := by
  refine call_in Try.func79 rfl Try.ntmps79 (by simp) ?_
  have ca := class_call W
  simp only [evC] at ca
  unfold evC
  repeat' (first
    | (with_reducible apply run_seq)
    | (with_reducible apply run_block)
    | (with_reducible apply run_inBlock)
    | (with_reducible apply run_skip)
    | ((with_reducible apply run_go); simp only [go_sem, *])
    | ((with_reducible apply run_cond); (focus (simp only [go_sem, *]; rfl)); (all_goals intro _))
    | ((with_reducible apply runO_box); (focus (simp only [go_sem, *]; done)); intro pb hpb; have hfb := Heap.ne_of_none hpb; (try simp only [Heap.set_none'] at hpb); (with_reducible apply runO_go); simp only [go_sem, *])
    | ((with_reducible apply runO_callF known55); simp only [go_sem, *]; refine (ca _ _).use ?_; (with_reducible apply runO_go); simp only [go_sem, *])
    | ((with_reducible apply run_ret Try.func79 res79 (H' := H)); (focus (simp only [go_sem, *]; rfl)); (focus trivial); (focus (repeat (first | assumption | exact Heap.sub_refl _ | refine Heap.sub_congr ?_ | refine Heap.sub_set ?_ (by assumption) | refine Heap.sub_set2 ?_ (by first | assumption | (simp only [*]; done) | (simp only [Heap.set_none', ne_eq, *, not_false_eq_true, and_self]; done)))))))
  all_goals (refine ⟨?_, rfl⟩; simp_all [rightE, tupA] <;> (intros; exfalso; omega))
/-- The document's words. -/
def rightR (e : Ev) : Bool :=
  !(decide (e.th < 0) || decide (3 < e.th) || decide (e.kd < 1) || decide (5 < e.kd) || decide (e.ob < 0) || decide (3 < e.ob)) &&
    (if e.kd = 1 then decide (e.ob = 0) else !e.fl && (decide (e.kd < 4) || decide (e.ob < 2)))
theorem right_eq (e : Ev) : rightE e = rightR e := by
  unfold rightE rightR clsE
  rw [Bool.eq_iff_iff]
  simp only [Bool.and_eq_true, Bool.not_eq_true', Bool.or_eq_false_iff, decide_eq_false_iff_not, Bool.or_eq_true, decide_eq_true_eq]
  by_cases h : e.kd = 1
  · simp [h]; omega
  · cases e.fl <;> simp [h] <;> (repeat' split) <;> omega
/-- An event's byte. -/
def byteE (e : Ev) : Int := e.th + 4 * e.kd + 32 * e.ob + if e.fl = true then 128 else 0
theorem right_bounds {e : Ev} (h : rightR e = true) : 0 ≤ e.th ∧ e.th ≤ 3 ∧ 1 ≤ e.kd ∧ e.kd ≤ 5 ∧ 0 ≤ e.ob ∧ e.ob ≤ 3 ∧ (e.fl = true → e.kd = 1 ∧ e.ob = 0) ∧ (4 ≤ e.kd → e.ob ≤ 1) ∧ (e.kd = 1 → e.ob = 0) := by
  unfold rightR at h
  simp only [Bool.and_eq_true, Bool.not_eq_true', Bool.or_eq_false_iff, decide_eq_false_iff_not] at h
  by_cases hk : e.kd = 1
  · simp [hk] at h; simp [hk]; omega
  · simp [hk] at h; simp [hk, h]; omega
theorem all_take_succ {l : List Ev} {k : Nat} {p : Ev → Bool} (h : k < l.length) (ht : (l.take k).all p = true) (hk : p (l.getD k default) = true) : (l.take (k + 1)).all p = true := by
  rw [take_succ_getD l k h, List.all_append, ht, List.all_cons, hk]; rfl
theorem all_not {l : List Ev} {k : Nat} {p : Ev → Bool} (h : k < l.length) (hk : p (l.getD k default) = false) : l.all p = false := by
  rw [List.all_eq_false]
  refine ⟨l.getD k default, ?_, by simpa using hk⟩
  simp [List.getD, h]
end Go.Proofs.Ytobdagjdhgjplaa
