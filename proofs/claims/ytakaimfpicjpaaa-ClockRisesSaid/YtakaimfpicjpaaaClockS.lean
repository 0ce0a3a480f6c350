/-
  Contracts: the place of a thread's event; rows that are the same, by definition.
-/
import Derived.Test.YtakaimfpicjpaaaClockR
set_option linter.unusedSimpArgs false
set_option linter.unusedVariables false
namespace Go.Proofs.Ytakaimfpicjpaaa
open Go Go.Sn Go.RowKit

theorem placeN_none {l : List Ev} {t : Int} {n : Nat} (h : (List.range l.length).find? (pAt l t n) = none) : placeN l t n = -1 := by unfold placeN; rw [h]
theorem placeN_at {l : List Ev} {t : Int} {n k : Nat} (hk : k < l.length) (h : (List.range k).find? (pAt l t n) = none) (hp : pAt l t n k = true) : placeN l t n = (k : Int) := by
  unfold placeN
  have : (List.range l.length).find? (pAt l t n) = some k := by
    rw [List.find?_range_eq_some]
    refine ⟨hp, by simpa using hk, fun j hj => ?_⟩
    rw [List.find?_eq_none] at h
    simpa using h j (List.mem_range.2 hj)
  rw [this]
theorem find_range_succ {p : Nat → Bool} {k : Nat} (h : (List.range k).find? p = none) (hp : p k = false) : (List.range (k + 1)).find? p = none := by
  rw [List.range_succ, List.find?_append, h]
  simp [hp]

theorem place_call (W : World) (H : Heap) (l : List Ev) (t : Int) (n : Nat) (hl : l.length ≤ 100000) (hn : 1 ≤ n) (hn2 : n ≤ 100000) :
    CallA Try.prog W 42 [.list (evsC l), .v (.int .i64 t), .v (.int .i64 (n : Int))] H fun r H' => r = .v (.int .i64 (placeN l t n)) ∧ H' = H := by
  refine call_in Try.func42 rfl Try.ntmps42 (by simp) ?_
  repeat' (first
    | (with_reducible apply run_seq)
    | (with_reducible apply run_block)
    | (with_reducible apply run_inBlock)
    | (with_reducible apply run_skip)
    | (with_reducible apply run_exit rfl)
    | ((with_reducible apply run_go); simp only [go_sem, *])
    | ((with_reducible apply run_drawGo (fun _ => false) mixed); (focus kernel_rfl); simp only [go_sem, *])
    | ((with_reducible apply run_cond_t); (focus (simp only [go_sem, *]; done)))
    | ((with_reducible apply run_cond_f); (focus (simp only [go_sem, *]; done)))
    | ((with_reducible apply run_cond); (focus (simp only [go_sem, *]; rfl)); (all_goals intro _))
    | ((with_reducible apply runO_box); (focus (simp only [go_sem, *]; done)); intro pb hpb; (try simp only [Heap.set_none'] at hpb); (with_reducible apply runO_go); simp only [go_sem, *])
    | ((with_reducible apply runO_alloc); (focus (simp only [go_sem, *]; rfl)); intro pb hpb; (try simp only [Heap.set_none'] at hpb); (with_reducible apply runO_go); simp only [go_sem, *])
    | ((with_reducible apply runD_box); (focus (simp only [go_sem, *]; done)); intro pb hpb; (try simp only [Heap.set_none'] at hpb); (with_reducible apply runD_go); simp only [go_sem, *])
    | ((with_reducible apply runD_alloc); (focus (simp only [go_sem, *]; rfl)); intro pb hpb; (try simp only [Heap.set_none'] at hpb); (with_reducible apply runD_go); simp only [go_sem, *])
    | ((with_reducible apply runO_makeMap); intro pb hpb; (try simp only [Heap.set_none'] at hpb); (with_reducible apply runO_go); simp only [go_sem, *])
    | ((with_reducible apply runO_store); (focus (simp only [go_sem]; rfl)); (focus (simp only [go_sem, *]; rfl)); (focus (simp only [go_sem, *]; rfl)); (focus (simp only [go_sem, *]; done)); (focus (simp only [go_sem, *]; done)); (focus (simp only [go_sem, *]; done)); (with_reducible apply runO_go); simp only [go_sem, *, Heap.set_set])
    | ((with_reducible apply runD_store); (focus (simp only [go_sem]; rfl)); (focus (simp only [go_sem, *]; rfl)); (focus (simp only [go_sem, *]; rfl)); (focus (simp only [go_sem, *]; done)); (focus (simp only [go_sem, *]; done)); (focus (simp only [go_sem, *]; done)); (with_reducible apply runD_go); simp only [go_sem, *, Heap.set_set])
    | ((with_reducible apply runD_skipF); (focus rfl); (focus (simp only [go_sem, *]; rfl)); (focus rfl); (with_reducible apply runD_go); simp only [go_sem, *])
    | ((with_reducible apply runO_skipF); (focus (simp only [go_sem, *]; rfl)); (focus rfl); (with_reducible apply runO_go); simp only [go_sem, *])
    | ((first | (with_reducible apply runA_and) | (with_reducible apply runO_and) | (with_reducible apply runD_and)); (focus (first | assumption | (simp only [go_sem, *]; done) | (simp only [go_sem, *]; assumption))); (try simp only [go_sem, *]))
    | ((with_reducible apply run_ret Try.func42 res42 (H' := H)); (focus (simp only [go_sem, *]; rfl)); (focus trivial); (focus (repeat (first | assumption | exact Heap.sub_refl _ | refine Heap.sub_congr ?_ | refine Heap.sub_set ?_ (by assumption) | refine Heap.sub_set2 ?_ (by first | assumption | (simp only [*]; done) | (simp only [Heap.set_none', ne_eq, *, not_false_eq_true, and_self]; done))))))
    | ((with_reducible apply run_end Try.func42 res42 (H' := H)); (focus (simp only [go_sem, *]; rfl)); (focus trivial); (focus (repeat (first | assumption | exact Heap.sub_refl _ | refine Heap.sub_congr ?_ | refine Heap.sub_set ?_ (by assumption) | refine Heap.sub_set2 ?_ (by first | assumption | (simp only [*]; done) | (simp only [Heap.set_none', ne_eq, *, not_false_eq_true, and_self]; done)))))))
  refine run_loop (fun m e H' => ∃ (k : Nat) (x : Int), k ≤ l.length ∧ m = l.length - k ∧ e 0 = .list (evsC l) ∧ e 1 = .v (.int .i64 t) ∧ e 2 = .v (.int .i64 x) ∧ x = (n : Int) - (cntT t (l.take k) : Int) ∧ 0 < x ∧ e 7 = .v (.int .i64 (k : Int)) ∧
      (List.range k).find? (pAt l t n) = none ∧ H = H') l.length
      ⟨0, n, Nat.zero_le _, rfl, (by simp only [go_sem, *]), (by simp only [go_sem, *]), (by simp only [go_sem, *]), by simp [cntT], by omega, by simp only [go_sem] <;> rfl, rfl, rfl⟩ ?_
  rintro m e H' ih ⟨k, x, hk, rfl, h0, h1, h2, hx, hx0, h7, hf, rfl⟩
  have IH : Hid _ := ih
  have HF : Hid _ := hf
  clear ih hf
  by_cases hlt : k < l.length
  · have hw : IntKind.i64.wrap ((k : Int) + 1) = ((k + 1 : Nat) : Int) := by rw [wrap_nat (by omega) (by omega)]; rfl
    have hs := cntT_succ t hlt
    have hwx : IntKind.i64.wrap (x - 1) = x - 1 := wrap_nat (by omega) (by omega)
    have HX : Hid _ := hx
    clear hx
    have HS : Hid _ := hs
    clear hs
    by_cases hr : (l.getD k default).th = t
    · by_cases h1x : x - 1 = 0
      · have hw0 : IntKind.i64.wrap 0 = 0 := rfl
        repeat' (first
    | (with_reducible apply run_seq)
    | (with_reducible apply run_block)
    | (with_reducible apply run_inBlock)
    | (with_reducible apply run_skip)
    | (with_reducible apply run_exit rfl)
    | ((with_reducible apply run_go); simp only [go_sem, *])
    | ((with_reducible apply run_drawGo (fun _ => false) mixed); (focus kernel_rfl); simp only [go_sem, *])
    | ((with_reducible apply run_cond_t); (focus (simp only [go_sem, *]; done)))
    | ((with_reducible apply run_cond_f); (focus (simp only [go_sem, *]; done)))
    | ((with_reducible apply run_cond); (focus (simp only [go_sem, *]; rfl)); (all_goals intro _))
    | ((with_reducible apply runO_box); (focus (simp only [go_sem, *]; done)); intro pb hpb; (try simp only [Heap.set_none'] at hpb); (with_reducible apply runO_go); simp only [go_sem, *])
    | ((with_reducible apply runO_alloc); (focus (simp only [go_sem, *]; rfl)); intro pb hpb; (try simp only [Heap.set_none'] at hpb); (with_reducible apply runO_go); simp only [go_sem, *])
    | ((with_reducible apply runD_box); (focus (simp only [go_sem, *]; done)); intro pb hpb; (try simp only [Heap.set_none'] at hpb); (with_reducible apply runD_go); simp only [go_sem, *])
    | ((with_reducible apply runD_alloc); (focus (simp only [go_sem, *]; rfl)); intro pb hpb; (try simp only [Heap.set_none'] at hpb); (with_reducible apply runD_go); simp only [go_sem, *])
    | ((with_reducible apply runO_makeMap); intro pb hpb; (try simp only [Heap.set_none'] at hpb); (with_reducible apply runO_go); simp only [go_sem, *])
    | ((with_reducible apply runO_store); (focus (simp only [go_sem]; rfl)); (focus (simp only [go_sem, *]; rfl)); (focus (simp only [go_sem, *]; rfl)); (focus (simp only [go_sem, *]; done)); (focus (simp only [go_sem, *]; done)); (focus (simp only [go_sem, *]; done)); (with_reducible apply runO_go); simp only [go_sem, *, Heap.set_set])
    | ((with_reducible apply runD_store); (focus (simp only [go_sem]; rfl)); (focus (simp only [go_sem, *]; rfl)); (focus (simp only [go_sem, *]; rfl)); (focus (simp only [go_sem, *]; done)); (focus (simp only [go_sem, *]; done)); (focus (simp only [go_sem, *]; done)); (with_reducible apply runD_go); simp only [go_sem, *, Heap.set_set])
    | ((with_reducible apply runD_skipF); (focus rfl); (focus (simp only [go_sem, *]; rfl)); (focus rfl); (with_reducible apply runD_go); simp only [go_sem, *])
    | ((with_reducible apply runO_skipF); (focus (simp only [go_sem, *]; rfl)); (focus rfl); (with_reducible apply runO_go); simp only [go_sem, *])
    | ((first | (with_reducible apply runA_and) | (with_reducible apply runO_and) | (with_reducible apply runD_and)); (focus (first | assumption | (simp only [go_sem, *]; done) | (simp only [go_sem, *]; assumption))); (try simp only [go_sem, *]))
    | ((with_reducible apply run_ret Try.func42 res42 (H' := H)); (focus (simp only [go_sem, *]; rfl)); (focus trivial); (focus (repeat (first | assumption | exact Heap.sub_refl _ | refine Heap.sub_congr ?_ | refine Heap.sub_set ?_ (by assumption) | refine Heap.sub_set2 ?_ (by first | assumption | (simp only [*]; done) | (simp only [Heap.set_none', ne_eq, *, not_false_eq_true, and_self]; done))))))
    | ((with_reducible apply run_end Try.func42 res42 (H' := H)); (focus (simp only [go_sem, *]; rfl)); (focus trivial); (focus (repeat (first | assumption | exact Heap.sub_refl _ | refine Heap.sub_congr ?_ | refine Heap.sub_set ?_ (by assumption) | refine Heap.sub_set2 ?_ (by first | assumption | (simp only [*]; done) | (simp only [Heap.set_none', ne_eq, *, not_false_eq_true, and_self]; done)))))))
        refine ⟨?_, rfl⟩
        have hs := HS.out
        have hx := HX.out
        rw [if_pos hr] at hs
        rw [placeN_at hlt HF.out (by unfold pAt; simp only [hr, decide_true, Bool.true_and, decide_eq_true_eq]; omega)]
        rfl
      · repeat' (first
    | (with_reducible apply run_seq)
    | (with_reducible apply run_block)
    | (with_reducible apply run_inBlock)
    | (with_reducible apply run_skip)
    | (with_reducible apply run_exit rfl)
    | ((with_reducible apply run_go); simp only [go_sem, *])
    | ((with_reducible apply run_drawGo (fun _ => false) mixed); (focus kernel_rfl); simp only [go_sem, *])
    | ((with_reducible apply run_cond_t); (focus (simp only [go_sem, *]; done)))
    | ((with_reducible apply run_cond_f); (focus (simp only [go_sem, *]; done)))
    | ((with_reducible apply run_cond); (focus (simp only [go_sem, *]; rfl)); (all_goals intro _))
    | ((with_reducible apply runO_box); (focus (simp only [go_sem, *]; done)); intro pb hpb; (try simp only [Heap.set_none'] at hpb); (with_reducible apply runO_go); simp only [go_sem, *])
    | ((with_reducible apply runO_alloc); (focus (simp only [go_sem, *]; rfl)); intro pb hpb; (try simp only [Heap.set_none'] at hpb); (with_reducible apply runO_go); simp only [go_sem, *])
    | ((with_reducible apply runD_box); (focus (simp only [go_sem, *]; done)); intro pb hpb; (try simp only [Heap.set_none'] at hpb); (with_reducible apply runD_go); simp only [go_sem, *])
    | ((with_reducible apply runD_alloc); (focus (simp only [go_sem, *]; rfl)); intro pb hpb; (try simp only [Heap.set_none'] at hpb); (with_reducible apply runD_go); simp only [go_sem, *])
    | ((with_reducible apply runO_makeMap); intro pb hpb; (try simp only [Heap.set_none'] at hpb); (with_reducible apply runO_go); simp only [go_sem, *])
    | ((with_reducible apply runO_store); (focus (simp only [go_sem]; rfl)); (focus (simp only [go_sem, *]; rfl)); (focus (simp only [go_sem, *]; rfl)); (focus (simp only [go_sem, *]; done)); (focus (simp only [go_sem, *]; done)); (focus (simp only [go_sem, *]; done)); (with_reducible apply runO_go); simp only [go_sem, *, Heap.set_set])
    | ((with_reducible apply runD_store); (focus (simp only [go_sem]; rfl)); (focus (simp only [go_sem, *]; rfl)); (focus (simp only [go_sem, *]; rfl)); (focus (simp only [go_sem, *]; done)); (focus (simp only [go_sem, *]; done)); (focus (simp only [go_sem, *]; done)); (with_reducible apply runD_go); simp only [go_sem, *, Heap.set_set])
    | ((with_reducible apply runD_skipF); (focus rfl); (focus (simp only [go_sem, *]; rfl)); (focus rfl); (with_reducible apply runD_go); simp only [go_sem, *])
    | ((with_reducible apply runO_skipF); (focus (simp only [go_sem, *]; rfl)); (focus rfl); (with_reducible apply runO_go); simp only [go_sem, *])
    | ((first | (with_reducible apply runA_and) | (with_reducible apply runO_and) | (with_reducible apply runD_and)); (focus (first | assumption | (simp only [go_sem, *]; done) | (simp only [go_sem, *]; assumption))); (try simp only [go_sem, *]))
    | ((with_reducible apply run_ret Try.func42 res42 (H' := H)); (focus (simp only [go_sem, *]; rfl)); (focus trivial); (focus (repeat (first | assumption | exact Heap.sub_refl _ | refine Heap.sub_congr ?_ | refine Heap.sub_set ?_ (by assumption) | refine Heap.sub_set2 ?_ (by first | assumption | (simp only [*]; done) | (simp only [Heap.set_none', ne_eq, *, not_false_eq_true, and_self]; done))))))
    | ((with_reducible apply run_end Try.func42 res42 (H' := H)); (focus (simp only [go_sem, *]; rfl)); (focus trivial); (focus (repeat (first | assumption | exact Heap.sub_refl _ | refine Heap.sub_congr ?_ | refine Heap.sub_set ?_ (by assumption) | refine Heap.sub_set2 ?_ (by first | assumption | (simp only [*]; done) | (simp only [Heap.set_none', ne_eq, *, not_false_eq_true, and_self]; done)))))))
        have hs := HS.out
        have hx := HX.out
        rw [if_pos hr] at hs
        refine IH.out (l.length - (k + 1)) _ _ (by omega) ⟨k + 1, x - 1, by omega, rfl, (by simp only [go_sem, *]), (by simp only [go_sem, *]), (by simp only [go_sem, *]), by omega, by omega, (by simp only [go_sem, *]), find_range_succ HF.out (by unfold pAt; simp only [hr, decide_true, Bool.true_and, decide_eq_false_iff_not]; omega), rfl⟩
    · repeat' (first
    | (with_reducible apply run_seq)
    | (with_reducible apply run_block)
    | (with_reducible apply run_inBlock)
    | (with_reducible apply run_skip)
    | (with_reducible apply run_exit rfl)
    | ((with_reducible apply run_go); simp only [go_sem, *])
    | ((with_reducible apply run_drawGo (fun _ => false) mixed); (focus kernel_rfl); simp only [go_sem, *])
    | ((with_reducible apply run_cond_t); (focus (simp only [go_sem, *]; done)))
    | ((with_reducible apply run_cond_f); (focus (simp only [go_sem, *]; done)))
    | ((with_reducible apply run_cond); (focus (simp only [go_sem, *]; rfl)); (all_goals intro _))
    | ((with_reducible apply runO_box); (focus (simp only [go_sem, *]; done)); intro pb hpb; (try simp only [Heap.set_none'] at hpb); (with_reducible apply runO_go); simp only [go_sem, *])
    | ((with_reducible apply runO_alloc); (focus (simp only [go_sem, *]; rfl)); intro pb hpb; (try simp only [Heap.set_none'] at hpb); (with_reducible apply runO_go); simp only [go_sem, *])
    | ((with_reducible apply runD_box); (focus (simp only [go_sem, *]; done)); intro pb hpb; (try simp only [Heap.set_none'] at hpb); (with_reducible apply runD_go); simp only [go_sem, *])
    | ((with_reducible apply runD_alloc); (focus (simp only [go_sem, *]; rfl)); intro pb hpb; (try simp only [Heap.set_none'] at hpb); (with_reducible apply runD_go); simp only [go_sem, *])
    | ((with_reducible apply runO_makeMap); intro pb hpb; (try simp only [Heap.set_none'] at hpb); (with_reducible apply runO_go); simp only [go_sem, *])
    | ((with_reducible apply runO_store); (focus (simp only [go_sem]; rfl)); (focus (simp only [go_sem, *]; rfl)); (focus (simp only [go_sem, *]; rfl)); (focus (simp only [go_sem, *]; done)); (focus (simp only [go_sem, *]; done)); (focus (simp only [go_sem, *]; done)); (with_reducible apply runO_go); simp only [go_sem, *, Heap.set_set])
    | ((with_reducible apply runD_store); (focus (simp only [go_sem]; rfl)); (focus (simp only [go_sem, *]; rfl)); (focus (simp only [go_sem, *]; rfl)); (focus (simp only [go_sem, *]; done)); (focus (simp only [go_sem, *]; done)); (focus (simp only [go_sem, *]; done)); (with_reducible apply runD_go); simp only [go_sem, *, Heap.set_set])
    | ((with_reducible apply runD_skipF); (focus rfl); (focus (simp only [go_sem, *]; rfl)); (focus rfl); (with_reducible apply runD_go); simp only [go_sem, *])
    | ((with_reducible apply runO_skipF); (focus (simp only [go_sem, *]; rfl)); (focus rfl); (with_reducible apply runO_go); simp only [go_sem, *])
    | ((first | (with_reducible apply runA_and) | (with_reducible apply runO_and) | (with_reducible apply runD_and)); (focus (first | assumption | (simp only [go_sem, *]; done) | (simp only [go_sem, *]; assumption))); (try simp only [go_sem, *]))
    | ((with_reducible apply run_ret Try.func42 res42 (H' := H)); (focus (simp only [go_sem, *]; rfl)); (focus trivial); (focus (repeat (first | assumption | exact Heap.sub_refl _ | refine Heap.sub_congr ?_ | refine Heap.sub_set ?_ (by assumption) | refine Heap.sub_set2 ?_ (by first | assumption | (simp only [*]; done) | (simp only [Heap.set_none', ne_eq, *, not_false_eq_true, and_self]; done))))))
    | ((with_reducible apply run_end Try.func42 res42 (H' := H)); (focus (simp only [go_sem, *]; rfl)); (focus trivial); (focus (repeat (first | assumption | exact Heap.sub_refl _ | refine Heap.sub_congr ?_ | refine Heap.sub_set ?_ (by assumption) | refine Heap.sub_set2 ?_ (by first | assumption | (simp only [*]; done) | (simp only [Heap.set_none', ne_eq, *, not_false_eq_true, and_self]; done)))))))
      have hs := HS.out
      have hx := HX.out
      rw [if_neg hr] at hs
      refine IH.out (l.length - (k + 1)) _ _ (by omega) ⟨k + 1, x, by omega, rfl, (by simp only [go_sem, *]), (by simp only [go_sem, *]), (by simp only [go_sem, *]), by omega, by omega, (by simp only [go_sem, *]), find_range_succ HF.out (by unfold pAt; rw [decide_eq_false hr]; rfl), rfl⟩
  · repeat' (first
    | (with_reducible apply run_seq)
    | (with_reducible apply run_block)
    | (with_reducible apply run_inBlock)
    | (with_reducible apply run_skip)
    | (with_reducible apply run_exit rfl)
    | ((with_reducible apply run_go); simp only [go_sem, *])
    | ((with_reducible apply run_drawGo (fun _ => false) mixed); (focus kernel_rfl); simp only [go_sem, *])
    | ((with_reducible apply run_cond_t); (focus (simp only [go_sem, *]; done)))
    | ((with_reducible apply run_cond_f); (focus (simp only [go_sem, *]; done)))
    | ((with_reducible apply run_cond); (focus (simp only [go_sem, *]; rfl)); (all_goals intro _))
    | ((with_reducible apply runO_box); (focus (simp only [go_sem, *]; done)); intro pb hpb; (try simp only [Heap.set_none'] at hpb); (with_reducible apply runO_go); simp only [go_sem, *])
    | ((with_reducible apply runO_alloc); (focus (simp only [go_sem, *]; rfl)); intro pb hpb; (try simp only [Heap.set_none'] at hpb); (with_reducible apply runO_go); simp only [go_sem, *])
    | ((with_reducible apply runD_box); (focus (simp only [go_sem, *]; done)); intro pb hpb; (try simp only [Heap.set_none'] at hpb); (with_reducible apply runD_go); simp only [go_sem, *])
    | ((with_reducible apply runD_alloc); (focus (simp only [go_sem, *]; rfl)); intro pb hpb; (try simp only [Heap.set_none'] at hpb); (with_reducible apply runD_go); simp only [go_sem, *])
    | ((with_reducible apply runO_makeMap); intro pb hpb; (try simp only [Heap.set_none'] at hpb); (with_reducible apply runO_go); simp only [go_sem, *])
    | ((with_reducible apply runO_store); (focus (simp only [go_sem]; rfl)); (focus (simp only [go_sem, *]; rfl)); (focus (simp only [go_sem, *]; rfl)); (focus (simp only [go_sem, *]; done)); (focus (simp only [go_sem, *]; done)); (focus (simp only [go_sem, *]; done)); (with_reducible apply runO_go); simp only [go_sem, *, Heap.set_set])
    | ((with_reducible apply runD_store); (focus (simp only [go_sem]; rfl)); (focus (simp only [go_sem, *]; rfl)); (focus (simp only [go_sem, *]; rfl)); (focus (simp only [go_sem, *]; done)); (focus (simp only [go_sem, *]; done)); (focus (simp only [go_sem, *]; done)); (with_reducible apply runD_go); simp only [go_sem, *, Heap.set_set])
    | ((with_reducible apply runD_skipF); (focus rfl); (focus (simp only [go_sem, *]; rfl)); (focus rfl); (with_reducible apply runD_go); simp only [go_sem, *])
    | ((with_reducible apply runO_skipF); (focus (simp only [go_sem, *]; rfl)); (focus rfl); (with_reducible apply runO_go); simp only [go_sem, *])
    | ((first | (with_reducible apply runA_and) | (with_reducible apply runO_and) | (with_reducible apply runD_and)); (focus (first | assumption | (simp only [go_sem, *]; done) | (simp only [go_sem, *]; assumption))); (try simp only [go_sem, *]))
    | ((with_reducible apply run_ret Try.func42 res42 (H' := H)); (focus (simp only [go_sem, *]; rfl)); (focus trivial); (focus (repeat (first | assumption | exact Heap.sub_refl _ | refine Heap.sub_congr ?_ | refine Heap.sub_set ?_ (by assumption) | refine Heap.sub_set2 ?_ (by first | assumption | (simp only [*]; done) | (simp only [Heap.set_none', ne_eq, *, not_false_eq_true, and_self]; done))))))
    | ((with_reducible apply run_end Try.func42 res42 (H' := H)); (focus (simp only [go_sem, *]; rfl)); (focus trivial); (focus (repeat (first | assumption | exact Heap.sub_refl _ | refine Heap.sub_congr ?_ | refine Heap.sub_set ?_ (by assumption) | refine Heap.sub_set2 ?_ (by first | assumption | (simp only [*]; done) | (simp only [Heap.set_none', ne_eq, *, not_false_eq_true, and_self]; done)))))))
    obtain rfl : k = l.length := by omega
    exact ⟨by rw [placeN_none HF.out]; rfl, rfl⟩

theorem toI_le (a b : List Ev) (i : Nat) : toI a b i < (b.length : Int) ∧ -1 ≤ toI a b i := placeN_le _ _ _
theorem row_len {l : List Ev} {k : Nat} (h : k < l.length) : ((ordU l l.length).getD k []).length = l.length :=
  ordU_rows l l.length _ (by simp [List.getD, List.getElem?_eq_getElem (show k < (ordU l l.length).length by rw [ordU_length]; exact h)])
theorem all_range_succ {p : Nat → Bool} {k : Nat} (h : (List.range k).all p = true) (hp : p k = true) : (List.range (k + 1)).all p = true := by
  rw [List.range_succ, List.all_append, h]; simp [hp]
theorem all_range_not {p : Nat → Bool} {k n : Nat} (h : k < n) (hp : p k = false) : (List.range n).all p = false := by
  rw [Bool.eq_false_iff]
  intro e
  rw [List.all_eq_true] at e
  rw [e k (List.mem_range.2 h)] at hp
  cases hp

theorem same_call (W : World) (H : Heap) (a b : List Ev) (ha : a.length ≤ 10000) (hb : b.length ≤ 10000) :
    CallA Try.prog W 33 [.list (evsC a), .list (evsC b)] H fun r H' => r = .v (.bool (sameR a b)) ∧ H' = H := by
  refine call_in Try.func33 rfl Try.ntmps33 (by simp) ?_
  have c1 := fun H => rows_call W H a (by omega)
  have c2 := fun H => rows_call W H b (by omega)
  repeat' (first
    | (with_reducible apply run_seq)
    | (with_reducible apply run_block)
    | (with_reducible apply run_inBlock)
    | (with_reducible apply run_skip)
    | (with_reducible apply run_exit rfl)
    | ((with_reducible apply run_go); simp only [go_sem, *])
    | ((with_reducible apply run_drawGo (fun _ => false) mixed); (focus kernel_rfl); simp only [go_sem, *])
    | ((with_reducible apply run_cond_t); (focus (simp only [go_sem, *]; done)))
    | ((with_reducible apply run_cond_f); (focus (simp only [go_sem, *]; done)))
    | ((with_reducible apply run_cond); (focus (simp only [go_sem, *]; rfl)); (all_goals intro _))
    | ((with_reducible apply runO_box); (focus (simp only [go_sem, *]; done)); intro pb hpb; (try simp only [Heap.set_none'] at hpb); (with_reducible apply runO_go); simp only [go_sem, *])
    | ((with_reducible apply runO_alloc); (focus (simp only [go_sem, *]; rfl)); intro pb hpb; (try simp only [Heap.set_none'] at hpb); (with_reducible apply runO_go); simp only [go_sem, *])
    | ((with_reducible apply runD_box); (focus (simp only [go_sem, *]; done)); intro pb hpb; (try simp only [Heap.set_none'] at hpb); (with_reducible apply runD_go); simp only [go_sem, *])
    | ((with_reducible apply runD_alloc); (focus (simp only [go_sem, *]; rfl)); intro pb hpb; (try simp only [Heap.set_none'] at hpb); (with_reducible apply runD_go); simp only [go_sem, *])
    | ((with_reducible apply runO_makeMap); intro pb hpb; (try simp only [Heap.set_none'] at hpb); (with_reducible apply runO_go); simp only [go_sem, *])
    | ((with_reducible apply runO_store); (focus (simp only [go_sem]; rfl)); (focus (simp only [go_sem, *]; rfl)); (focus (simp only [go_sem, *]; rfl)); (focus (simp only [go_sem, *]; done)); (focus (simp only [go_sem, *]; done)); (focus (simp only [go_sem, *]; done)); (with_reducible apply runO_go); simp only [go_sem, *, Heap.set_set])
    | ((with_reducible apply runD_store); (focus (simp only [go_sem]; rfl)); (focus (simp only [go_sem, *]; rfl)); (focus (simp only [go_sem, *]; rfl)); (focus (simp only [go_sem, *]; done)); (focus (simp only [go_sem, *]; done)); (focus (simp only [go_sem, *]; done)); (with_reducible apply runD_go); simp only [go_sem, *, Heap.set_set])
    | ((with_reducible apply runD_skipF); (focus rfl); (focus (simp only [go_sem, *]; rfl)); (focus rfl); (with_reducible apply runD_go); simp only [go_sem, *])
    | ((with_reducible apply runO_skipF); (focus (simp only [go_sem, *]; rfl)); (focus rfl); (with_reducible apply runO_go); simp only [go_sem, *])
    | ((first | (with_reducible apply runA_and) | (with_reducible apply runO_and) | (with_reducible apply runD_and)); (focus (first | assumption | (simp only [go_sem, *]; done) | (simp only [go_sem, *]; assumption))); (try simp only [go_sem, *]))
    | ((with_reducible apply runO_callF known27); simp only [go_sem, *]; refine (c1 _).use ?_; (with_reducible apply runO_go); simp only [go_sem, *])
    | ((with_reducible apply runO_callFG known27); (focus (simp only [go_sem, *]; rfl)); (focus (intro _; simp only [go_sem, *]; exact c1 _)); (with_reducible apply runO_go); simp only [go_sem, *])
    | ((with_reducible apply runD_callF known27); (focus (simp only [go_sem, *]; exact c1 _)); (with_reducible apply runD_go); simp only [go_sem, *])
    | ((with_reducible apply runD_callFG known27); (focus rfl); (focus (simp only [go_sem, *]; rfl)); (focus (intro _; simp only [go_sem, *]; exact c1 _)); (with_reducible apply runD_go); simp only [go_sem, *])
    | ((with_reducible apply runO_callF known27); simp only [go_sem, *]; refine (c2 _).use ?_; (with_reducible apply runO_go); simp only [go_sem, *])
    | ((with_reducible apply runO_callFG known27); (focus (simp only [go_sem, *]; rfl)); (focus (intro _; simp only [go_sem, *]; exact c2 _)); (with_reducible apply runO_go); simp only [go_sem, *])
    | ((with_reducible apply runD_callF known27); (focus (simp only [go_sem, *]; exact c2 _)); (with_reducible apply runD_go); simp only [go_sem, *])
    | ((with_reducible apply runD_callFG known27); (focus rfl); (focus (simp only [go_sem, *]; rfl)); (focus (intro _; simp only [go_sem, *]; exact c2 _)); (with_reducible apply runD_go); simp only [go_sem, *])
    | ((with_reducible apply run_ret Try.func33 res33 (H' := H)); (focus (simp only [go_sem, *]; rfl)); (focus trivial); (focus (repeat (first | assumption | exact Heap.sub_refl _ | refine Heap.sub_congr ?_ | refine Heap.sub_set ?_ (by assumption) | refine Heap.sub_set2 ?_ (by first | assumption | (simp only [*]; done) | (simp only [Heap.set_none', ne_eq, *, not_false_eq_true, and_self]; done))))))
    | ((with_reducible apply run_end Try.func33 res33 (H' := H)); (focus (simp only [go_sem, *]; rfl)); (focus trivial); (focus (repeat (first | assumption | exact Heap.sub_refl _ | refine Heap.sub_congr ?_ | refine Heap.sub_set ?_ (by assumption) | refine Heap.sub_set2 ?_ (by first | assumption | (simp only [*]; done) | (simp only [Heap.set_none', ne_eq, *, not_false_eq_true, and_self]; done)))))))
  · rename_i h
    refine ⟨?_, rfl⟩
    have : sameR a b = false := by
      unfold sameR
      cases h1 : a.all rightR <;> cases h2 : b.all rightR <;> simp_all
    rw [this]; rfl
  rename_i h
  simp only [Bool.or_eq_false_iff, Bool.not_eq_false', decide_eq_true_eq] at h
  obtain ⟨⟨hl, hra⟩, hrb⟩ := h
  have hlen : a.length = b.length := by omega
  clear c1 c2 hl
  have HL : Hid _ := hlen
  clear hlen
  have c3 := fun H => order_call W H a (by omega)
  have c4 := fun H => order_call W H b (by omega)
  repeat' (first
    | (with_reducible apply run_seq)
    | (with_reducible apply run_block)
    | (with_reducible apply run_inBlock)
    | (with_reducible apply run_skip)
    | (with_reducible apply run_exit rfl)
    | ((with_reducible apply run_go); simp only [go_sem, *])
    | ((with_reducible apply run_drawGo (fun _ => false) mixed); (focus kernel_rfl); simp only [go_sem, *])
    | ((with_reducible apply run_cond_t); (focus (simp only [go_sem, *]; done)))
    | ((with_reducible apply run_cond_f); (focus (simp only [go_sem, *]; done)))
    | ((with_reducible apply run_cond); (focus (simp only [go_sem, *]; rfl)); (all_goals intro _))
    | ((with_reducible apply runO_box); (focus (simp only [go_sem, *]; done)); intro pb hpb; (try simp only [Heap.set_none'] at hpb); (with_reducible apply runO_go); simp only [go_sem, *])
    | ((with_reducible apply runO_alloc); (focus (simp only [go_sem, *]; rfl)); intro pb hpb; (try simp only [Heap.set_none'] at hpb); (with_reducible apply runO_go); simp only [go_sem, *])
    | ((with_reducible apply runD_box); (focus (simp only [go_sem, *]; done)); intro pb hpb; (try simp only [Heap.set_none'] at hpb); (with_reducible apply runD_go); simp only [go_sem, *])
    | ((with_reducible apply runD_alloc); (focus (simp only [go_sem, *]; rfl)); intro pb hpb; (try simp only [Heap.set_none'] at hpb); (with_reducible apply runD_go); simp only [go_sem, *])
    | ((with_reducible apply runO_makeMap); intro pb hpb; (try simp only [Heap.set_none'] at hpb); (with_reducible apply runO_go); simp only [go_sem, *])
    | ((with_reducible apply runO_store); (focus (simp only [go_sem]; rfl)); (focus (simp only [go_sem, *]; rfl)); (focus (simp only [go_sem, *]; rfl)); (focus (simp only [go_sem, *]; done)); (focus (simp only [go_sem, *]; done)); (focus (simp only [go_sem, *]; done)); (with_reducible apply runO_go); simp only [go_sem, *, Heap.set_set])
    | ((with_reducible apply runD_store); (focus (simp only [go_sem]; rfl)); (focus (simp only [go_sem, *]; rfl)); (focus (simp only [go_sem, *]; rfl)); (focus (simp only [go_sem, *]; done)); (focus (simp only [go_sem, *]; done)); (focus (simp only [go_sem, *]; done)); (with_reducible apply runD_go); simp only [go_sem, *, Heap.set_set])
    | ((with_reducible apply runD_skipF); (focus rfl); (focus (simp only [go_sem, *]; rfl)); (focus rfl); (with_reducible apply runD_go); simp only [go_sem, *])
    | ((with_reducible apply runO_skipF); (focus (simp only [go_sem, *]; rfl)); (focus rfl); (with_reducible apply runO_go); simp only [go_sem, *])
    | ((first | (with_reducible apply runA_and) | (with_reducible apply runO_and) | (with_reducible apply runD_and)); (focus (first | assumption | (simp only [go_sem, *]; done) | (simp only [go_sem, *]; assumption))); (try simp only [go_sem, *]))
    | ((with_reducible apply runO_callF known41); simp only [go_sem, *]; refine (c3 _).use ?_; (with_reducible apply runO_go); simp only [go_sem, *])
    | ((with_reducible apply runO_callFG known41); (focus (simp only [go_sem, *]; rfl)); (focus (intro _; simp only [go_sem, *]; exact c3 _)); (with_reducible apply runO_go); simp only [go_sem, *])
    | ((with_reducible apply runD_callF known41); (focus (simp only [go_sem, *]; exact c3 _)); (with_reducible apply runD_go); simp only [go_sem, *])
    | ((with_reducible apply runD_callFG known41); (focus rfl); (focus (simp only [go_sem, *]; rfl)); (focus (intro _; simp only [go_sem, *]; exact c3 _)); (with_reducible apply runD_go); simp only [go_sem, *])
    | ((with_reducible apply runO_callF known41); simp only [go_sem, *]; refine (c4 _).use ?_; (with_reducible apply runO_go); simp only [go_sem, *])
    | ((with_reducible apply runO_callFG known41); (focus (simp only [go_sem, *]; rfl)); (focus (intro _; simp only [go_sem, *]; exact c4 _)); (with_reducible apply runO_go); simp only [go_sem, *])
    | ((with_reducible apply runD_callF known41); (focus (simp only [go_sem, *]; exact c4 _)); (with_reducible apply runD_go); simp only [go_sem, *])
    | ((with_reducible apply runD_callFG known41); (focus rfl); (focus (simp only [go_sem, *]; rfl)); (focus (intro _; simp only [go_sem, *]; exact c4 _)); (with_reducible apply runD_go); simp only [go_sem, *])
    | ((with_reducible apply run_ret Try.func33 res33 (H' := H)); (focus (simp only [go_sem, *]; rfl)); (focus trivial); (focus (repeat (first | assumption | exact Heap.sub_refl _ | refine Heap.sub_congr ?_ | refine Heap.sub_set ?_ (by assumption) | refine Heap.sub_set2 ?_ (by first | assumption | (simp only [*]; done) | (simp only [Heap.set_none', ne_eq, *, not_false_eq_true, and_self]; done))))))
    | ((with_reducible apply run_end Try.func33 res33 (H' := H)); (focus (simp only [go_sem, *]; rfl)); (focus trivial); (focus (repeat (first | assumption | exact Heap.sub_refl _ | refine Heap.sub_congr ?_ | refine Heap.sub_set ?_ (by assumption) | refine Heap.sub_set2 ?_ (by first | assumption | (simp only [*]; done) | (simp only [Heap.set_none', ne_eq, *, not_false_eq_true, and_self]; done)))))))
  clear c3 c4
  refine run_loop (fun m e H' => ∃ k : Nat, k ≤ a.length ∧ m = a.length - k ∧ e 0 = .list (evsC a) ∧ e 1 = .list (evsC b) ∧ e 5 = .list (rowsC (ordU a a.length)) ∧ e 6 = .list (rowsC (ordU b b.length)) ∧ e 8 = .v (.int .i64 (k : Int)) ∧
      (List.range k).all (okTo a b) = true ∧ Coll H 3 1 (intsC ((List.range k).map (toI a b))) (e 7) H') a.length
      ⟨0, Nat.zero_le _, rfl, (by simp only [go_sem, *]), (by simp only [go_sem, *]), (by simp only [go_sem, *]), (by simp only [go_sem, *]), by simp only [go_sem] <;> rfl, rfl, by simp only [go_sem]; exact .none rfl⟩ ?_
  rintro m e H' ih ⟨k, hk, rfl, h0, h1, h5, h6, h8, hall, hc⟩
  have IH : Hid _ := ih
  have HA : Hid _ := hall
  clear ih hall
  by_cases hlt : k < a.length
  · generalize h7 : e 7 = d at hc
    have hnum : numN a (k : Int) = ((cntT (a.getD k default).th (a.take (k + 1)) : Nat) : Int) := by
      unfold numN
      rw [if_neg (by simp only [hra]; simp; omega)]
      simp only [Int.toNat_natCast]
    have c5 := fun H => numberR_call W H a (k : Int) (by omega)
    rw [hnum] at c5
    clear hnum
    have hpos : 1 ≤ cntT (a.getD k default).th (a.take (k + 1)) ∧ cntT (a.getD k default).th (a.take (k + 1)) ≤ 10000 := by
      have h1 := cntT_succ (a.getD k default).th hlt
      have h2 := cntT_le (a.getD k default).th (a.take (k + 1))
      rw [List.length_take] at h2
      rw [if_pos rfl] at h1
      omega
    have c6 := fun H => place_call W H b (a.getD k default).th (cntT (a.getD k default).th (a.take (k + 1))) (by omega) hpos.1 (by omega)
    rw [show placeN b (a.getD k default).th (cntT (a.getD k default).th (a.take (k + 1))) = toI a b k from rfl] at c6
    clear hpos
    have hsub := hc.sub
    have hti := toI_le a b k
    by_cases hneg : toI a b k < 0
    · have hm1 : toI a b k = -1 := by omega
      have hb0 : 0 < b.length := by have := HL.out; omega
      rw [hm1] at c6
      have hno : sameR a b = false := by
        unfold sameR
        rw [all_range_not hlt (by unfold okTo; simp [hm1])]
        simp
      clear hneg hti
      repeat' (first
    | (with_reducible apply run_seq)
    | (with_reducible apply run_block)
    | (with_reducible apply run_inBlock)
    | (with_reducible apply run_skip)
    | (with_reducible apply run_exit rfl)
    | ((with_reducible apply run_go); simp only [go_sem, *])
    | ((with_reducible apply run_drawGo (fun _ => false) mixed); (focus kernel_rfl); simp only [go_sem, *])
    | ((with_reducible apply run_cond_t); (focus (simp only [go_sem, *]; done)))
    | ((with_reducible apply run_cond_f); (focus (simp only [go_sem, *]; done)))
    | ((with_reducible apply run_cond); (focus (simp only [go_sem, *]; rfl)); (all_goals intro _))
    | ((with_reducible apply runO_box); (focus (simp only [go_sem, *]; done)); intro pb hpb; (try simp only [Heap.set_none'] at hpb); (with_reducible apply runO_go); simp only [go_sem, *])
    | ((with_reducible apply runO_alloc); (focus (simp only [go_sem, *]; rfl)); intro pb hpb; (try simp only [Heap.set_none'] at hpb); (with_reducible apply runO_go); simp only [go_sem, *])
    | ((with_reducible apply runD_box); (focus (simp only [go_sem, *]; done)); intro pb hpb; (try simp only [Heap.set_none'] at hpb); (with_reducible apply runD_go); simp only [go_sem, *])
    | ((with_reducible apply runD_alloc); (focus (simp only [go_sem, *]; rfl)); intro pb hpb; (try simp only [Heap.set_none'] at hpb); (with_reducible apply runD_go); simp only [go_sem, *])
    | ((with_reducible apply runO_makeMap); intro pb hpb; (try simp only [Heap.set_none'] at hpb); (with_reducible apply runO_go); simp only [go_sem, *])
    | ((with_reducible apply runO_store); (focus (simp only [go_sem]; rfl)); (focus (simp only [go_sem, *]; rfl)); (focus (simp only [go_sem, *]; rfl)); (focus (simp only [go_sem, *]; done)); (focus (simp only [go_sem, *]; done)); (focus (simp only [go_sem, *]; done)); (with_reducible apply runO_go); simp only [go_sem, *, Heap.set_set])
    | ((with_reducible apply runD_store); (focus (simp only [go_sem]; rfl)); (focus (simp only [go_sem, *]; rfl)); (focus (simp only [go_sem, *]; rfl)); (focus (simp only [go_sem, *]; done)); (focus (simp only [go_sem, *]; done)); (focus (simp only [go_sem, *]; done)); (with_reducible apply runD_go); simp only [go_sem, *, Heap.set_set])
    | ((with_reducible apply runD_skipF); (focus rfl); (focus (simp only [go_sem, *]; rfl)); (focus rfl); (with_reducible apply runD_go); simp only [go_sem, *])
    | ((with_reducible apply runO_skipF); (focus (simp only [go_sem, *]; rfl)); (focus rfl); (with_reducible apply runO_go); simp only [go_sem, *])
    | ((first | (with_reducible apply runA_and) | (with_reducible apply runO_and) | (with_reducible apply runD_and)); (focus (first | assumption | (simp only [go_sem, *]; done) | (simp only [go_sem, *]; assumption))); (try simp only [go_sem, *]))
    | ((with_reducible apply runO_callF known35); simp only [go_sem, *]; refine (c5 _).use ?_; (with_reducible apply runO_go); simp only [go_sem, *])
    | ((with_reducible apply runO_callFG known35); (focus (simp only [go_sem, *]; rfl)); (focus (intro _; simp only [go_sem, *]; exact c5 _)); (with_reducible apply runO_go); simp only [go_sem, *])
    | ((with_reducible apply runD_callF known35); (focus (simp only [go_sem, *]; exact c5 _)); (with_reducible apply runD_go); simp only [go_sem, *])
    | ((with_reducible apply runD_callFG known35); (focus rfl); (focus (simp only [go_sem, *]; rfl)); (focus (intro _; simp only [go_sem, *]; exact c5 _)); (with_reducible apply runD_go); simp only [go_sem, *])
        | ((with_reducible apply runO_callF known42); simp only [go_sem, *]; refine (c6 _).use ?_; (with_reducible apply runO_go); simp only [go_sem, *])
    | ((with_reducible apply runO_callFG known42); (focus (simp only [go_sem, *]; rfl)); (focus (intro _; simp only [go_sem, *]; exact c6 _)); (with_reducible apply runO_go); simp only [go_sem, *])
    | ((with_reducible apply runD_callF known42); (focus (simp only [go_sem, *]; exact c6 _)); (with_reducible apply runD_go); simp only [go_sem, *])
    | ((with_reducible apply runD_callFG known42); (focus rfl); (focus (simp only [go_sem, *]; rfl)); (focus (intro _; simp only [go_sem, *]; exact c6 _)); (with_reducible apply runD_go); simp only [go_sem, *])
    | ((with_reducible apply run_ret Try.func33 res33 (H' := H)); (focus (simp only [go_sem, *]; rfl)); (focus trivial); (focus (repeat (first | assumption | exact Heap.sub_refl _ | refine Heap.sub_congr ?_ | refine Heap.sub_set ?_ (by assumption) | refine Heap.sub_set2 ?_ (by first | assumption | (simp only [*]; done) | (simp only [Heap.set_none', ne_eq, *, not_false_eq_true, and_self]; done))))))
    | ((with_reducible apply run_end Try.func33 res33 (H' := H)); (focus (simp only [go_sem, *]; rfl)); (focus trivial); (focus (repeat (first | assumption | exact Heap.sub_refl _ | refine Heap.sub_congr ?_ | refine Heap.sub_set ?_ (by assumption) | refine Heap.sub_set2 ?_ (by first | assumption | (simp only [*]; done) | (simp only [Heap.set_none', ne_eq, *, not_false_eq_true, and_self]; done)))))))
      exact ⟨rfl, rfl⟩
    · obtain ⟨j, hj⟩ : ∃ j : Nat, toI a b k = (j : Int) := ⟨(toI a b k).toNat, by omega⟩
      have hjl : j < b.length := by omega
      have hj0 : ¬ ((j : Int) < 0) := by omega
      clear hneg hti
      have hok : okTo a b k = decide (b.getD j default = a.getD k default) := by unfold okTo; rw [hj]; simp
      have hw : IntKind.i64.wrap ((k : Int) + 1) = ((k + 1 : Nat) : Int) := by rw [wrap_nat (by omega) (by omega)]; rfl
      rw [hj] at c6
      by_cases he : b.getD j default = a.getD k default
      · have HK : Hid _ := hok
        clear hok
        have HJ : Hid _ := hj
        clear hj
        repeat' (first
    | (with_reducible apply run_seq)
    | (with_reducible apply run_block)
    | (with_reducible apply run_inBlock)
    | (with_reducible apply run_skip)
    | (with_reducible apply run_exit rfl)
    | ((with_reducible apply run_go); simp only [go_sem, *])
    | ((with_reducible apply run_drawGo (fun _ => false) mixed); (focus kernel_rfl); simp only [go_sem, *])
    | ((with_reducible apply run_cond_t); (focus (simp only [go_sem, *]; done)))
    | ((with_reducible apply run_cond_f); (focus (simp only [go_sem, *]; done)))
    | ((with_reducible apply run_cond); (focus (simp only [go_sem, *]; rfl)); (all_goals intro _))
    | ((with_reducible apply runO_box); (focus (simp only [go_sem, *]; done)); intro pb hpb; (try simp only [Heap.set_none'] at hpb); (with_reducible apply runO_go); simp only [go_sem, *])
    | ((with_reducible apply runO_alloc); (focus (simp only [go_sem, *]; rfl)); intro pb hpb; (try simp only [Heap.set_none'] at hpb); (with_reducible apply runO_go); simp only [go_sem, *])
    | ((with_reducible apply runD_box); (focus (simp only [go_sem, *]; done)); intro pb hpb; (try simp only [Heap.set_none'] at hpb); (with_reducible apply runD_go); simp only [go_sem, *])
    | ((with_reducible apply runD_alloc); (focus (simp only [go_sem, *]; rfl)); intro pb hpb; (try simp only [Heap.set_none'] at hpb); (with_reducible apply runD_go); simp only [go_sem, *])
    | ((with_reducible apply runO_makeMap); intro pb hpb; (try simp only [Heap.set_none'] at hpb); (with_reducible apply runO_go); simp only [go_sem, *])
    | ((with_reducible apply runO_store); (focus (simp only [go_sem]; rfl)); (focus (simp only [go_sem, *]; rfl)); (focus (simp only [go_sem, *]; rfl)); (focus (simp only [go_sem, *]; done)); (focus (simp only [go_sem, *]; done)); (focus (simp only [go_sem, *]; done)); (with_reducible apply runO_go); simp only [go_sem, *, Heap.set_set])
    | ((with_reducible apply runD_store); (focus (simp only [go_sem]; rfl)); (focus (simp only [go_sem, *]; rfl)); (focus (simp only [go_sem, *]; rfl)); (focus (simp only [go_sem, *]; done)); (focus (simp only [go_sem, *]; done)); (focus (simp only [go_sem, *]; done)); (with_reducible apply runD_go); simp only [go_sem, *, Heap.set_set])
    | ((with_reducible apply runD_skipF); (focus rfl); (focus (simp only [go_sem, *]; rfl)); (focus rfl); (with_reducible apply runD_go); simp only [go_sem, *])
    | ((with_reducible apply runO_skipF); (focus (simp only [go_sem, *]; rfl)); (focus rfl); (with_reducible apply runO_go); simp only [go_sem, *])
    | ((first | (with_reducible apply runA_and) | (with_reducible apply runO_and) | (with_reducible apply runD_and)); (focus (first | assumption | (simp only [go_sem, *]; done) | (simp only [go_sem, *]; assumption))); (try simp only [go_sem, *]))
    | ((with_reducible apply runO_callF known35); simp only [go_sem, *]; refine (c5 _).use ?_; (with_reducible apply runO_go); simp only [go_sem, *])
    | ((with_reducible apply runO_callFG known35); (focus (simp only [go_sem, *]; rfl)); (focus (intro _; simp only [go_sem, *]; exact c5 _)); (with_reducible apply runO_go); simp only [go_sem, *])
    | ((with_reducible apply runD_callF known35); (focus (simp only [go_sem, *]; exact c5 _)); (with_reducible apply runD_go); simp only [go_sem, *])
    | ((with_reducible apply runD_callFG known35); (focus rfl); (focus (simp only [go_sem, *]; rfl)); (focus (intro _; simp only [go_sem, *]; exact c5 _)); (with_reducible apply runD_go); simp only [go_sem, *])
          | ((with_reducible apply runO_callF known42); simp only [go_sem, *]; refine (c6 _).use ?_; (with_reducible apply runO_go); simp only [go_sem, *])
    | ((with_reducible apply runO_callFG known42); (focus (simp only [go_sem, *]; rfl)); (focus (intro _; simp only [go_sem, *]; exact c6 _)); (with_reducible apply runO_go); simp only [go_sem, *])
    | ((with_reducible apply runD_callF known42); (focus (simp only [go_sem, *]; exact c6 _)); (with_reducible apply runD_go); simp only [go_sem, *])
    | ((with_reducible apply runD_callFG known42); (focus rfl); (focus (simp only [go_sem, *]; rfl)); (focus (intro _; simp only [go_sem, *]; exact c6 _)); (with_reducible apply runD_go); simp only [go_sem, *])
          | ((with_reducible apply runO_buildSlice); (focus (simp only [go_sem]; rfl)); (focus (simp only [go_sem]; rfl)); (focus (simp only [go_sem]; rfl)); (focus rfl); (focus rfl); (focus (simp only [go_sem, *]; done)); (focus (simp only [go_sem, *]; done)); (focus decide); (with_reducible apply runO_go); simp only [go_sem, *])
    | ((with_reducible apply runO_buildSliceG); (focus (simp only [go_sem, *]; rfl)); (focus (simp only [go_sem]; rfl)); (focus (simp only [go_sem]; rfl)); (focus (simp only [go_sem]; rfl)); (focus rfl); (focus rfl); (focus (simp only [go_sem, *]; done)); (focus (simp only [go_sem, *]; done)); (focus decide); (with_reducible apply runO_go); simp only [go_sem, *])
    | ((with_reducible apply runD_buildSlice); (focus (simp only [go_sem]; rfl)); (focus (simp only [go_sem]; rfl)); (focus (simp only [go_sem]; rfl)); (focus rfl); (focus rfl); (focus (simp only [go_sem, *]; done)); (focus (simp only [go_sem, *]; done)); (focus decide); (with_reducible apply runD_go); simp only [go_sem, *])
    | ((with_reducible apply runD_buildSliceG); (focus (simp only [go_sem, *]; rfl)); (focus (simp only [go_sem]; rfl)); (focus (simp only [go_sem]; rfl)); (focus (simp only [go_sem]; rfl)); (focus rfl); (focus rfl); (focus (simp only [go_sem, *]; done)); (focus (simp only [go_sem, *]; done)); (focus decide); (with_reducible apply runD_go); simp only [go_sem, *])
    | ((with_reducible apply run_ret Try.func33 res33 (H' := H)); (focus (simp only [go_sem, *]; rfl)); (focus trivial); (focus (repeat (first | assumption | exact Heap.sub_refl _ | refine Heap.sub_congr ?_ | refine Heap.sub_set ?_ (by assumption) | refine Heap.sub_set2 ?_ (by first | assumption | (simp only [*]; done) | (simp only [Heap.set_none', ne_eq, *, not_false_eq_true, and_self]; done))))))
    | ((with_reducible apply run_end Try.func33 res33 (H' := H)); (focus (simp only [go_sem, *]; rfl)); (focus trivial); (focus (repeat (first | assumption | exact Heap.sub_refl _ | refine Heap.sub_congr ?_ | refine Heap.sub_set ?_ (by assumption) | refine Heap.sub_set2 ?_ (by first | assumption | (simp only [*]; done) | (simp only [Heap.set_none', ne_eq, *, not_false_eq_true, and_self]; done)))))))
        (refine runO_coll (t := 35) Try.underlying35 sz3 by3 zr3 rfl (by simp only [go_sem, *]; exact hc) (by simp only [go_sem, *]; rfl) (intsC_all _) (by simp) (by (try simp only [List.length_range, intsC_length, evsC_length, numsC_length, List.length_map, List.length_take, List.length_cons, List.length_nil, List.length_append, go_sem]); omega) (by (try simp only [maxLen, List.length_range, intsC_length, evsC_length, numsC_length, List.length_map, List.length_take, List.length_cons, List.length_nil, List.length_append, go_sem]); omega) (fun d1 H1 hc1 => ?_); (with_reducible apply runO_go); simp only [go_sem, *])
        repeat' (first
    | (with_reducible apply run_seq)
    | (with_reducible apply run_block)
    | (with_reducible apply run_inBlock)
    | (with_reducible apply run_skip)
    | (with_reducible apply run_exit rfl)
    | ((with_reducible apply run_go); simp only [go_sem, *])
    | ((with_reducible apply run_drawGo (fun _ => false) mixed); (focus kernel_rfl); simp only [go_sem, *])
    | ((with_reducible apply run_cond_t); (focus (simp only [go_sem, *]; done)))
    | ((with_reducible apply run_cond_f); (focus (simp only [go_sem, *]; done)))
    | ((with_reducible apply run_cond); (focus (simp only [go_sem, *]; rfl)); (all_goals intro _))
    | ((with_reducible apply runO_box); (focus (simp only [go_sem, *]; done)); intro pb hpb; (try simp only [Heap.set_none'] at hpb); (with_reducible apply runO_go); simp only [go_sem, *])
    | ((with_reducible apply runO_alloc); (focus (simp only [go_sem, *]; rfl)); intro pb hpb; (try simp only [Heap.set_none'] at hpb); (with_reducible apply runO_go); simp only [go_sem, *])
    | ((with_reducible apply runD_box); (focus (simp only [go_sem, *]; done)); intro pb hpb; (try simp only [Heap.set_none'] at hpb); (with_reducible apply runD_go); simp only [go_sem, *])
    | ((with_reducible apply runD_alloc); (focus (simp only [go_sem, *]; rfl)); intro pb hpb; (try simp only [Heap.set_none'] at hpb); (with_reducible apply runD_go); simp only [go_sem, *])
    | ((with_reducible apply runO_makeMap); intro pb hpb; (try simp only [Heap.set_none'] at hpb); (with_reducible apply runO_go); simp only [go_sem, *])
    | ((with_reducible apply runO_store); (focus (simp only [go_sem]; rfl)); (focus (simp only [go_sem, *]; rfl)); (focus (simp only [go_sem, *]; rfl)); (focus (simp only [go_sem, *]; done)); (focus (simp only [go_sem, *]; done)); (focus (simp only [go_sem, *]; done)); (with_reducible apply runO_go); simp only [go_sem, *, Heap.set_set])
    | ((with_reducible apply runD_store); (focus (simp only [go_sem]; rfl)); (focus (simp only [go_sem, *]; rfl)); (focus (simp only [go_sem, *]; rfl)); (focus (simp only [go_sem, *]; done)); (focus (simp only [go_sem, *]; done)); (focus (simp only [go_sem, *]; done)); (with_reducible apply runD_go); simp only [go_sem, *, Heap.set_set])
    | ((with_reducible apply runD_skipF); (focus rfl); (focus (simp only [go_sem, *]; rfl)); (focus rfl); (with_reducible apply runD_go); simp only [go_sem, *])
    | ((with_reducible apply runO_skipF); (focus (simp only [go_sem, *]; rfl)); (focus rfl); (with_reducible apply runO_go); simp only [go_sem, *])
    | ((first | (with_reducible apply runA_and) | (with_reducible apply runO_and) | (with_reducible apply runD_and)); (focus (first | assumption | (simp only [go_sem, *]; done) | (simp only [go_sem, *]; assumption))); (try simp only [go_sem, *]))
    | ((with_reducible apply run_ret Try.func33 res33 (H' := H)); (focus (simp only [go_sem, *]; rfl)); (focus trivial); (focus (repeat (first | assumption | exact Heap.sub_refl _ | refine Heap.sub_congr ?_ | refine Heap.sub_set ?_ (by assumption) | refine Heap.sub_set2 ?_ (by first | assumption | (simp only [*]; done) | (simp only [Heap.set_none', ne_eq, *, not_false_eq_true, and_self]; done))))))
    | ((with_reducible apply run_end Try.func33 res33 (H' := H)); (focus (simp only [go_sem, *]; rfl)); (focus trivial); (focus (repeat (first | assumption | exact Heap.sub_refl _ | refine Heap.sub_congr ?_ | refine Heap.sub_set ?_ (by assumption) | refine Heap.sub_set2 ?_ (by first | assumption | (simp only [*]; done) | (simp only [Heap.set_none', ne_eq, *, not_false_eq_true, and_self]; done)))))))
        have hok := HK.out
        rw [decide_eq_true he] at hok
        refine IH.out (a.length - (k + 1)) _ _ (by omega) ⟨k + 1, by omega, rfl, (by simp only [go_sem, *]), (by simp only [go_sem, *]), (by simp only [go_sem, *]), (by simp only [go_sem, *]), (by simp only [go_sem, *]), all_range_succ HA.out hok, ?_⟩
        simp only [go_sem]
        have hj := HJ.out
        simpa [List.range_succ, intsC, hj] using hc1
      · have hno : sameR a b = false := by
          unfold sameR
          rw [all_range_not hlt (by rw [hok]; exact decide_eq_false he)]
          simp
        clear hok
        repeat' (first
    | (with_reducible apply run_seq)
    | (with_reducible apply run_block)
    | (with_reducible apply run_inBlock)
    | (with_reducible apply run_skip)
    | (with_reducible apply run_exit rfl)
    | ((with_reducible apply run_go); simp only [go_sem, *])
    | ((with_reducible apply run_drawGo (fun _ => false) mixed); (focus kernel_rfl); simp only [go_sem, *])
    | ((with_reducible apply run_cond_t); (focus (simp only [go_sem, *]; done)))
    | ((with_reducible apply run_cond_f); (focus (simp only [go_sem, *]; done)))
    | ((with_reducible apply run_cond); (focus (simp only [go_sem, *]; rfl)); (all_goals intro _))
    | ((with_reducible apply runO_box); (focus (simp only [go_sem, *]; done)); intro pb hpb; (try simp only [Heap.set_none'] at hpb); (with_reducible apply runO_go); simp only [go_sem, *])
    | ((with_reducible apply runO_alloc); (focus (simp only [go_sem, *]; rfl)); intro pb hpb; (try simp only [Heap.set_none'] at hpb); (with_reducible apply runO_go); simp only [go_sem, *])
    | ((with_reducible apply runD_box); (focus (simp only [go_sem, *]; done)); intro pb hpb; (try simp only [Heap.set_none'] at hpb); (with_reducible apply runD_go); simp only [go_sem, *])
    | ((with_reducible apply runD_alloc); (focus (simp only [go_sem, *]; rfl)); intro pb hpb; (try simp only [Heap.set_none'] at hpb); (with_reducible apply runD_go); simp only [go_sem, *])
    | ((with_reducible apply runO_makeMap); intro pb hpb; (try simp only [Heap.set_none'] at hpb); (with_reducible apply runO_go); simp only [go_sem, *])
    | ((with_reducible apply runO_store); (focus (simp only [go_sem]; rfl)); (focus (simp only [go_sem, *]; rfl)); (focus (simp only [go_sem, *]; rfl)); (focus (simp only [go_sem, *]; done)); (focus (simp only [go_sem, *]; done)); (focus (simp only [go_sem, *]; done)); (with_reducible apply runO_go); simp only [go_sem, *, Heap.set_set])
    | ((with_reducible apply runD_store); (focus (simp only [go_sem]; rfl)); (focus (simp only [go_sem, *]; rfl)); (focus (simp only [go_sem, *]; rfl)); (focus (simp only [go_sem, *]; done)); (focus (simp only [go_sem, *]; done)); (focus (simp only [go_sem, *]; done)); (with_reducible apply runD_go); simp only [go_sem, *, Heap.set_set])
    | ((with_reducible apply runD_skipF); (focus rfl); (focus (simp only [go_sem, *]; rfl)); (focus rfl); (with_reducible apply runD_go); simp only [go_sem, *])
    | ((with_reducible apply runO_skipF); (focus (simp only [go_sem, *]; rfl)); (focus rfl); (with_reducible apply runO_go); simp only [go_sem, *])
    | ((first | (with_reducible apply runA_and) | (with_reducible apply runO_and) | (with_reducible apply runD_and)); (focus (first | assumption | (simp only [go_sem, *]; done) | (simp only [go_sem, *]; assumption))); (try simp only [go_sem, *]))
    | ((with_reducible apply runO_callF known35); simp only [go_sem, *]; refine (c5 _).use ?_; (with_reducible apply runO_go); simp only [go_sem, *])
    | ((with_reducible apply runO_callFG known35); (focus (simp only [go_sem, *]; rfl)); (focus (intro _; simp only [go_sem, *]; exact c5 _)); (with_reducible apply runO_go); simp only [go_sem, *])
    | ((with_reducible apply runD_callF known35); (focus (simp only [go_sem, *]; exact c5 _)); (with_reducible apply runD_go); simp only [go_sem, *])
    | ((with_reducible apply runD_callFG known35); (focus rfl); (focus (simp only [go_sem, *]; rfl)); (focus (intro _; simp only [go_sem, *]; exact c5 _)); (with_reducible apply runD_go); simp only [go_sem, *])
          | ((with_reducible apply runO_callF known42); simp only [go_sem, *]; refine (c6 _).use ?_; (with_reducible apply runO_go); simp only [go_sem, *])
    | ((with_reducible apply runO_callFG known42); (focus (simp only [go_sem, *]; rfl)); (focus (intro _; simp only [go_sem, *]; exact c6 _)); (with_reducible apply runO_go); simp only [go_sem, *])
    | ((with_reducible apply runD_callF known42); (focus (simp only [go_sem, *]; exact c6 _)); (with_reducible apply runD_go); simp only [go_sem, *])
    | ((with_reducible apply runD_callFG known42); (focus rfl); (focus (simp only [go_sem, *]; rfl)); (focus (intro _; simp only [go_sem, *]; exact c6 _)); (with_reducible apply runD_go); simp only [go_sem, *])
    | ((with_reducible apply run_ret Try.func33 res33 (H' := H)); (focus (simp only [go_sem, *]; rfl)); (focus trivial); (focus (repeat (first | assumption | exact Heap.sub_refl _ | refine Heap.sub_congr ?_ | refine Heap.sub_set ?_ (by assumption) | refine Heap.sub_set2 ?_ (by first | assumption | (simp only [*]; done) | (simp only [Heap.set_none', ne_eq, *, not_false_eq_true, and_self]; done))))))
    | ((with_reducible apply run_end Try.func33 res33 (H' := H)); (focus (simp only [go_sem, *]; rfl)); (focus trivial); (focus (repeat (first | assumption | exact Heap.sub_refl _ | refine Heap.sub_congr ?_ | refine Heap.sub_set ?_ (by assumption) | refine Heap.sub_set2 ?_ (by first | assumption | (simp only [*]; done) | (simp only [Heap.set_none', ne_eq, *, not_false_eq_true, and_self]; done)))))))
        exact ⟨rfl, rfl⟩
  · obtain rfl : k = a.length := by omega
    repeat' (first
    | (with_reducible apply run_seq)
    | (with_reducible apply run_block)
    | (with_reducible apply run_inBlock)
    | (with_reducible apply run_skip)
    | (with_reducible apply run_exit rfl)
    | ((with_reducible apply run_go); simp only [go_sem, *])
    | ((with_reducible apply run_drawGo (fun _ => false) mixed); (focus kernel_rfl); simp only [go_sem, *])
    | ((with_reducible apply run_cond_t); (focus (simp only [go_sem, *]; done)))
    | ((with_reducible apply run_cond_f); (focus (simp only [go_sem, *]; done)))
    | ((with_reducible apply run_cond); (focus (simp only [go_sem, *]; rfl)); (all_goals intro _))
    | ((with_reducible apply runO_box); (focus (simp only [go_sem, *]; done)); intro pb hpb; (try simp only [Heap.set_none'] at hpb); (with_reducible apply runO_go); simp only [go_sem, *])
    | ((with_reducible apply runO_alloc); (focus (simp only [go_sem, *]; rfl)); intro pb hpb; (try simp only [Heap.set_none'] at hpb); (with_reducible apply runO_go); simp only [go_sem, *])
    | ((with_reducible apply runD_box); (focus (simp only [go_sem, *]; done)); intro pb hpb; (try simp only [Heap.set_none'] at hpb); (with_reducible apply runD_go); simp only [go_sem, *])
    | ((with_reducible apply runD_alloc); (focus (simp only [go_sem, *]; rfl)); intro pb hpb; (try simp only [Heap.set_none'] at hpb); (with_reducible apply runD_go); simp only [go_sem, *])
    | ((with_reducible apply runO_makeMap); intro pb hpb; (try simp only [Heap.set_none'] at hpb); (with_reducible apply runO_go); simp only [go_sem, *])
    | ((with_reducible apply runO_store); (focus (simp only [go_sem]; rfl)); (focus (simp only [go_sem, *]; rfl)); (focus (simp only [go_sem, *]; rfl)); (focus (simp only [go_sem, *]; done)); (focus (simp only [go_sem, *]; done)); (focus (simp only [go_sem, *]; done)); (with_reducible apply runO_go); simp only [go_sem, *, Heap.set_set])
    | ((with_reducible apply runD_store); (focus (simp only [go_sem]; rfl)); (focus (simp only [go_sem, *]; rfl)); (focus (simp only [go_sem, *]; rfl)); (focus (simp only [go_sem, *]; done)); (focus (simp only [go_sem, *]; done)); (focus (simp only [go_sem, *]; done)); (with_reducible apply runD_go); simp only [go_sem, *, Heap.set_set])
    | ((with_reducible apply runD_skipF); (focus rfl); (focus (simp only [go_sem, *]; rfl)); (focus rfl); (with_reducible apply runD_go); simp only [go_sem, *])
    | ((with_reducible apply runO_skipF); (focus (simp only [go_sem, *]; rfl)); (focus rfl); (with_reducible apply runO_go); simp only [go_sem, *])
    | ((first | (with_reducible apply runA_and) | (with_reducible apply runO_and) | (with_reducible apply runD_and)); (focus (first | assumption | (simp only [go_sem, *]; done) | (simp only [go_sem, *]; assumption))); (try simp only [go_sem, *]))
    | ((with_reducible apply run_ret Try.func33 res33 (H' := H)); (focus (simp only [go_sem, *]; rfl)); (focus trivial); (focus (repeat (first | assumption | exact Heap.sub_refl _ | refine Heap.sub_congr ?_ | refine Heap.sub_set ?_ (by assumption) | refine Heap.sub_set2 ?_ (by first | assumption | (simp only [*]; done) | (simp only [Heap.set_none', ne_eq, *, not_false_eq_true, and_self]; done))))))
    | ((with_reducible apply run_end Try.func33 res33 (H' := H)); (focus (simp only [go_sem, *]; rfl)); (focus trivial); (focus (repeat (first | assumption | exact Heap.sub_refl _ | refine Heap.sub_congr ?_ | refine Heap.sub_set ?_ (by assumption) | refine Heap.sub_set2 ?_ (by first | assumption | (simp only [*]; done) | (simp only [Heap.set_none', ne_eq, *, not_false_eq_true, and_self]; done)))))))
    refine run_coll (j := 7) (e := 3) (sz := 1) (H0 := H) (xs := intsC ((List.range a.length).map (toI a b))) (by simp only [go_sem]; exact hc) ?_
    have hto : ∀ i, i < a.length → ∃ j : Nat, toI a b i = (j : Int) ∧ j < b.length := by
      intro i hi
      have h1 := List.all_eq_true.1 HA.out i (List.mem_range.2 hi)
      unfold okTo at h1
      rw [Bool.and_eq_true, decide_eq_true_eq] at h1
      exact ⟨(toI a b i).toNat, by omega, by have := (toI_le a b i).1; omega⟩
    clear hc IH hlt
    have hto' : Hid _ := hto
    clear hto
    have hLg : ∀ i, i < a.length → ((List.range a.length).map (toI a b)).getD i default = toI a b i := by
      intro i hi
      simp [List.getD_eq_getElem?_getD, hi]
    generalize hL : (List.range a.length).map (toI a b) = L at *
    have hLl : L.length = a.length := by rw [← hL]; simp
    refine run_loop (fun m e2 H2 => ∃ i : Nat, i ≤ a.length ∧ m = a.length - i ∧ e2 0 = .list (evsC a) ∧ e2 5 = .list (rowsC (ordU a a.length)) ∧ e2 6 = .list (rowsC (ordU b b.length)) ∧ e2 7 = .list (intsC L) ∧ e2 10 = .v (.int .i64 (i : Int)) ∧
        ((List.range i).all fun i => (List.range a.length).all (okOrd a b i)) = true ∧ H = H2) a.length
        ⟨0, Nat.zero_le _, rfl, (by simp only [go_sem, *]), (by simp only [go_sem, *]), (by simp only [go_sem, *]), (by simp only [go_sem, *]), by simp only [go_sem] <;> rfl, rfl, rfl⟩ ?_
    rintro m e2 H2 ih ⟨i, hi, rfl, g0, g5, g6, g7, g10, hal2, rfl⟩
    have IH : Hid _ := ih
    have HA2 : Hid _ := hal2
    clear ih hal2 h0 h1 h5 h6 h8 e
    by_cases hil : i < a.length
    · have hw : IntKind.i64.wrap ((i : Int) + 1) = ((i + 1 : Nat) : Int) := by rw [wrap_nat (by omega) (by omega)]; rfl
      repeat' (first
    | (with_reducible apply run_seq)
    | (with_reducible apply run_block)
    | (with_reducible apply run_inBlock)
    | (with_reducible apply run_skip)
    | (with_reducible apply run_exit rfl)
    | ((with_reducible apply run_go); simp only [go_sem, *])
    | ((with_reducible apply run_drawGo (fun _ => false) mixed); (focus kernel_rfl); simp only [go_sem, *])
    | ((with_reducible apply run_cond_t); (focus (simp only [go_sem, *]; done)))
    | ((with_reducible apply run_cond_f); (focus (simp only [go_sem, *]; done)))
    | ((with_reducible apply run_cond); (focus (simp only [go_sem, *]; rfl)); (all_goals intro _))
    | ((with_reducible apply runO_box); (focus (simp only [go_sem, *]; done)); intro pb hpb; (try simp only [Heap.set_none'] at hpb); (with_reducible apply runO_go); simp only [go_sem, *])
    | ((with_reducible apply runO_alloc); (focus (simp only [go_sem, *]; rfl)); intro pb hpb; (try simp only [Heap.set_none'] at hpb); (with_reducible apply runO_go); simp only [go_sem, *])
    | ((with_reducible apply runD_box); (focus (simp only [go_sem, *]; done)); intro pb hpb; (try simp only [Heap.set_none'] at hpb); (with_reducible apply runD_go); simp only [go_sem, *])
    | ((with_reducible apply runD_alloc); (focus (simp only [go_sem, *]; rfl)); intro pb hpb; (try simp only [Heap.set_none'] at hpb); (with_reducible apply runD_go); simp only [go_sem, *])
    | ((with_reducible apply runO_makeMap); intro pb hpb; (try simp only [Heap.set_none'] at hpb); (with_reducible apply runO_go); simp only [go_sem, *])
    | ((with_reducible apply runO_store); (focus (simp only [go_sem]; rfl)); (focus (simp only [go_sem, *]; rfl)); (focus (simp only [go_sem, *]; rfl)); (focus (simp only [go_sem, *]; done)); (focus (simp only [go_sem, *]; done)); (focus (simp only [go_sem, *]; done)); (with_reducible apply runO_go); simp only [go_sem, *, Heap.set_set])
    | ((with_reducible apply runD_store); (focus (simp only [go_sem]; rfl)); (focus (simp only [go_sem, *]; rfl)); (focus (simp only [go_sem, *]; rfl)); (focus (simp only [go_sem, *]; done)); (focus (simp only [go_sem, *]; done)); (focus (simp only [go_sem, *]; done)); (with_reducible apply runD_go); simp only [go_sem, *, Heap.set_set])
    | ((with_reducible apply runD_skipF); (focus rfl); (focus (simp only [go_sem, *]; rfl)); (focus rfl); (with_reducible apply runD_go); simp only [go_sem, *])
    | ((with_reducible apply runO_skipF); (focus (simp only [go_sem, *]; rfl)); (focus rfl); (with_reducible apply runO_go); simp only [go_sem, *])
    | ((first | (with_reducible apply runA_and) | (with_reducible apply runO_and) | (with_reducible apply runD_and)); (focus (first | assumption | (simp only [go_sem, *]; done) | (simp only [go_sem, *]; assumption))); (try simp only [go_sem, *]))
    | ((with_reducible apply run_ret Try.func33 res33 (H' := H)); (focus (simp only [go_sem, *]; rfl)); (focus trivial); (focus (repeat (first | assumption | exact Heap.sub_refl _ | refine Heap.sub_congr ?_ | refine Heap.sub_set ?_ (by assumption) | refine Heap.sub_set2 ?_ (by first | assumption | (simp only [*]; done) | (simp only [Heap.set_none', ne_eq, *, not_false_eq_true, and_self]; done))))))
    | ((with_reducible apply run_end Try.func33 res33 (H' := H)); (focus (simp only [go_sem, *]; rfl)); (focus trivial); (focus (repeat (first | assumption | exact Heap.sub_refl _ | refine Heap.sub_congr ?_ | refine Heap.sub_set ?_ (by assumption) | refine Heap.sub_set2 ?_ (by first | assumption | (simp only [*]; done) | (simp only [Heap.set_none', ne_eq, *, not_false_eq_true, and_self]; done)))))))
      refine run_loop (fun m e3 H3 => ∃ k : Nat, k ≤ a.length ∧ m = a.length - k ∧ e3 0 = .list (evsC a) ∧ e3 5 = .list (rowsC (ordU a a.length)) ∧ e3 6 = .list (rowsC (ordU b b.length)) ∧ e3 7 = .list (intsC L) ∧ e3 10 = .v (.int .i64 (i : Int)) ∧ e3 11 = .v (.int .i64 (k : Int)) ∧
          (List.range k).all (okOrd a b i) = true ∧ H = H3) a.length
          ⟨0, Nat.zero_le _, rfl, (by simp only [go_sem, *]), (by simp only [go_sem, *]), (by simp only [go_sem, *]), (by simp only [go_sem, *]), (by simp only [go_sem, *]), by simp only [go_sem] <;> rfl, rfl, rfl⟩ ?_
      rintro m e3 H3 ih ⟨k, hk3, rfl, f0, f5, f6, f7, f10, f11, hal3, rfl⟩
      have IHk : Hid _ := ih
      have HA3 : Hid _ := hal3
      clear ih hal3 g0 g5 g6 g7 g10 e2
      by_cases hkl : k < a.length
      · have hwk : IntKind.i64.wrap ((k : Int) + 1) = ((k + 1 : Nat) : Int) := by rw [wrap_nat (by omega) (by omega)]; rfl
        obtain ⟨ji, hji, hjil⟩ := hto'.out i hil
        obtain ⟨jk, hjk, hjkl⟩ := hto'.out k hkl
        have hgi := hLg i hil
        have hgk := hLg k hkl
        rw [hji] at hgi
        rw [hjk] at hgk
        have u1 := ordU_length a a.length
        have u2 := ordU_length b b.length
        have r1 := row_len hil
        have r2 := row_len hjil
        have hok : okOrd a b i k = decide (((ordU a a.length).getD i []).getD k false = ((ordU b b.length).getD ji []).getD jk false) := by unfold okOrd; rw [hji, hjk]; rfl
        have HK : Hid _ := hok
        clear hji hjk hL hLg hok
        by_cases he : ((ordU a a.length).getD i []).getD k false = ((ordU b b.length).getD ji []).getD jk false
        · repeat' (first
    | (with_reducible apply run_seq)
    | (with_reducible apply run_block)
    | (with_reducible apply run_inBlock)
    | (with_reducible apply run_skip)
    | (with_reducible apply run_exit rfl)
    | ((with_reducible apply run_go); simp only [go_sem, *])
    | ((with_reducible apply run_drawGo (fun _ => false) mixed); (focus kernel_rfl); simp only [go_sem, *])
    | ((with_reducible apply run_cond_t); (focus (simp only [go_sem, *]; done)))
    | ((with_reducible apply run_cond_f); (focus (simp only [go_sem, *]; done)))
    | ((with_reducible apply run_cond); (focus (simp only [go_sem, *]; rfl)); (all_goals intro _))
    | ((with_reducible apply runO_box); (focus (simp only [go_sem, *]; done)); intro pb hpb; (try simp only [Heap.set_none'] at hpb); (with_reducible apply runO_go); simp only [go_sem, *])
    | ((with_reducible apply runO_alloc); (focus (simp only [go_sem, *]; rfl)); intro pb hpb; (try simp only [Heap.set_none'] at hpb); (with_reducible apply runO_go); simp only [go_sem, *])
    | ((with_reducible apply runD_box); (focus (simp only [go_sem, *]; done)); intro pb hpb; (try simp only [Heap.set_none'] at hpb); (with_reducible apply runD_go); simp only [go_sem, *])
    | ((with_reducible apply runD_alloc); (focus (simp only [go_sem, *]; rfl)); intro pb hpb; (try simp only [Heap.set_none'] at hpb); (with_reducible apply runD_go); simp only [go_sem, *])
    | ((with_reducible apply runO_makeMap); intro pb hpb; (try simp only [Heap.set_none'] at hpb); (with_reducible apply runO_go); simp only [go_sem, *])
    | ((with_reducible apply runO_store); (focus (simp only [go_sem]; rfl)); (focus (simp only [go_sem, *]; rfl)); (focus (simp only [go_sem, *]; rfl)); (focus (simp only [go_sem, *]; done)); (focus (simp only [go_sem, *]; done)); (focus (simp only [go_sem, *]; done)); (with_reducible apply runO_go); simp only [go_sem, *, Heap.set_set])
    | ((with_reducible apply runD_store); (focus (simp only [go_sem]; rfl)); (focus (simp only [go_sem, *]; rfl)); (focus (simp only [go_sem, *]; rfl)); (focus (simp only [go_sem, *]; done)); (focus (simp only [go_sem, *]; done)); (focus (simp only [go_sem, *]; done)); (with_reducible apply runD_go); simp only [go_sem, *, Heap.set_set])
    | ((with_reducible apply runD_skipF); (focus rfl); (focus (simp only [go_sem, *]; rfl)); (focus rfl); (with_reducible apply runD_go); simp only [go_sem, *])
    | ((with_reducible apply runO_skipF); (focus (simp only [go_sem, *]; rfl)); (focus rfl); (with_reducible apply runO_go); simp only [go_sem, *])
    | ((first | (with_reducible apply runA_and) | (with_reducible apply runO_and) | (with_reducible apply runD_and)); (focus (first | assumption | (simp only [go_sem, *]; done) | (simp only [go_sem, *]; assumption))); (try simp only [go_sem, *]))
    | ((with_reducible apply run_ret Try.func33 res33 (H' := H)); (focus (simp only [go_sem, *]; rfl)); (focus trivial); (focus (repeat (first | assumption | exact Heap.sub_refl _ | refine Heap.sub_congr ?_ | refine Heap.sub_set ?_ (by assumption) | refine Heap.sub_set2 ?_ (by first | assumption | (simp only [*]; done) | (simp only [Heap.set_none', ne_eq, *, not_false_eq_true, and_self]; done))))))
    | ((with_reducible apply run_end Try.func33 res33 (H' := H)); (focus (simp only [go_sem, *]; rfl)); (focus trivial); (focus (repeat (first | assumption | exact Heap.sub_refl _ | refine Heap.sub_congr ?_ | refine Heap.sub_set ?_ (by assumption) | refine Heap.sub_set2 ?_ (by first | assumption | (simp only [*]; done) | (simp only [Heap.set_none', ne_eq, *, not_false_eq_true, and_self]; done)))))))
          refine IHk.out (a.length - (k + 1)) _ _ (by omega) ⟨k + 1, by omega, rfl, (by simp only [go_sem, *]), (by simp only [go_sem, *]), (by simp only [go_sem, *]), (by simp only [go_sem, *]), (by simp only [go_sem, *]), (by simp only [go_sem, *]), all_range_succ HA3.out ?_, rfl⟩
          rw [HK.out]
          exact decide_eq_true he
        · have hbe : (((ordU a a.length).getD i []).getD k false == ((ordU b b.length).getD ji []).getD jk false) = false := beq_false_of_ne he
          repeat' (first
    | (with_reducible apply run_seq)
    | (with_reducible apply run_block)
    | (with_reducible apply run_inBlock)
    | (with_reducible apply run_skip)
    | (with_reducible apply run_exit rfl)
    | ((with_reducible apply run_go); simp only [go_sem, *])
    | ((with_reducible apply run_drawGo (fun _ => false) mixed); (focus kernel_rfl); simp only [go_sem, *])
    | ((with_reducible apply run_cond_t); (focus (simp only [go_sem, *]; done)))
    | ((with_reducible apply run_cond_f); (focus (simp only [go_sem, *]; done)))
    | ((with_reducible apply run_cond); (focus (simp only [go_sem, *]; rfl)); (all_goals intro _))
    | ((with_reducible apply runO_box); (focus (simp only [go_sem, *]; done)); intro pb hpb; (try simp only [Heap.set_none'] at hpb); (with_reducible apply runO_go); simp only [go_sem, *])
    | ((with_reducible apply runO_alloc); (focus (simp only [go_sem, *]; rfl)); intro pb hpb; (try simp only [Heap.set_none'] at hpb); (with_reducible apply runO_go); simp only [go_sem, *])
    | ((with_reducible apply runD_box); (focus (simp only [go_sem, *]; done)); intro pb hpb; (try simp only [Heap.set_none'] at hpb); (with_reducible apply runD_go); simp only [go_sem, *])
    | ((with_reducible apply runD_alloc); (focus (simp only [go_sem, *]; rfl)); intro pb hpb; (try simp only [Heap.set_none'] at hpb); (with_reducible apply runD_go); simp only [go_sem, *])
    | ((with_reducible apply runO_makeMap); intro pb hpb; (try simp only [Heap.set_none'] at hpb); (with_reducible apply runO_go); simp only [go_sem, *])
    | ((with_reducible apply runO_store); (focus (simp only [go_sem]; rfl)); (focus (simp only [go_sem, *]; rfl)); (focus (simp only [go_sem, *]; rfl)); (focus (simp only [go_sem, *]; done)); (focus (simp only [go_sem, *]; done)); (focus (simp only [go_sem, *]; done)); (with_reducible apply runO_go); simp only [go_sem, *, Heap.set_set])
    | ((with_reducible apply runD_store); (focus (simp only [go_sem]; rfl)); (focus (simp only [go_sem, *]; rfl)); (focus (simp only [go_sem, *]; rfl)); (focus (simp only [go_sem, *]; done)); (focus (simp only [go_sem, *]; done)); (focus (simp only [go_sem, *]; done)); (with_reducible apply runD_go); simp only [go_sem, *, Heap.set_set])
    | ((with_reducible apply runD_skipF); (focus rfl); (focus (simp only [go_sem, *]; rfl)); (focus rfl); (with_reducible apply runD_go); simp only [go_sem, *])
    | ((with_reducible apply runO_skipF); (focus (simp only [go_sem, *]; rfl)); (focus rfl); (with_reducible apply runO_go); simp only [go_sem, *])
    | ((first | (with_reducible apply runA_and) | (with_reducible apply runO_and) | (with_reducible apply runD_and)); (focus (first | assumption | (simp only [go_sem, *]; done) | (simp only [go_sem, *]; assumption))); (try simp only [go_sem, *]))
    | ((with_reducible apply run_ret Try.func33 res33 (H' := H)); (focus (simp only [go_sem, *]; rfl)); (focus trivial); (focus (repeat (first | assumption | exact Heap.sub_refl _ | refine Heap.sub_congr ?_ | refine Heap.sub_set ?_ (by assumption) | refine Heap.sub_set2 ?_ (by first | assumption | (simp only [*]; done) | (simp only [Heap.set_none', ne_eq, *, not_false_eq_true, and_self]; done))))))
    | ((with_reducible apply run_end Try.func33 res33 (H' := H)); (focus (simp only [go_sem, *]; rfl)); (focus trivial); (focus (repeat (first | assumption | exact Heap.sub_refl _ | refine Heap.sub_congr ?_ | refine Heap.sub_set ?_ (by assumption) | refine Heap.sub_set2 ?_ (by first | assumption | (simp only [*]; done) | (simp only [Heap.set_none', ne_eq, *, not_false_eq_true, and_self]; done)))))))
          refine ⟨?_, rfl⟩
          have hno : sameR a b = false := by
            unfold sameR
            rw [all_range_not (p := fun i => (List.range a.length).all (okOrd a b i)) hil (all_range_not hkl (by rw [HK.out]; exact decide_eq_false he))]
            simp
          rw [hno]; rfl
      · obtain rfl : k = a.length := by omega
        clear hLg
        repeat' (first
    | (with_reducible apply run_seq)
    | (with_reducible apply run_block)
    | (with_reducible apply run_inBlock)
    | (with_reducible apply run_skip)
    | (with_reducible apply run_exit rfl)
    | ((with_reducible apply run_go); simp only [go_sem, *])
    | ((with_reducible apply run_drawGo (fun _ => false) mixed); (focus kernel_rfl); simp only [go_sem, *])
    | ((with_reducible apply run_cond_t); (focus (simp only [go_sem, *]; done)))
    | ((with_reducible apply run_cond_f); (focus (simp only [go_sem, *]; done)))
    | ((with_reducible apply run_cond); (focus (simp only [go_sem, *]; rfl)); (all_goals intro _))
    | ((with_reducible apply runO_box); (focus (simp only [go_sem, *]; done)); intro pb hpb; (try simp only [Heap.set_none'] at hpb); (with_reducible apply runO_go); simp only [go_sem, *])
    | ((with_reducible apply runO_alloc); (focus (simp only [go_sem, *]; rfl)); intro pb hpb; (try simp only [Heap.set_none'] at hpb); (with_reducible apply runO_go); simp only [go_sem, *])
    | ((with_reducible apply runD_box); (focus (simp only [go_sem, *]; done)); intro pb hpb; (try simp only [Heap.set_none'] at hpb); (with_reducible apply runD_go); simp only [go_sem, *])
    | ((with_reducible apply runD_alloc); (focus (simp only [go_sem, *]; rfl)); intro pb hpb; (try simp only [Heap.set_none'] at hpb); (with_reducible apply runD_go); simp only [go_sem, *])
    | ((with_reducible apply runO_makeMap); intro pb hpb; (try simp only [Heap.set_none'] at hpb); (with_reducible apply runO_go); simp only [go_sem, *])
    | ((with_reducible apply runO_store); (focus (simp only [go_sem]; rfl)); (focus (simp only [go_sem, *]; rfl)); (focus (simp only [go_sem, *]; rfl)); (focus (simp only [go_sem, *]; done)); (focus (simp only [go_sem, *]; done)); (focus (simp only [go_sem, *]; done)); (with_reducible apply runO_go); simp only [go_sem, *, Heap.set_set])
    | ((with_reducible apply runD_store); (focus (simp only [go_sem]; rfl)); (focus (simp only [go_sem, *]; rfl)); (focus (simp only [go_sem, *]; rfl)); (focus (simp only [go_sem, *]; done)); (focus (simp only [go_sem, *]; done)); (focus (simp only [go_sem, *]; done)); (with_reducible apply runD_go); simp only [go_sem, *, Heap.set_set])
    | ((with_reducible apply runD_skipF); (focus rfl); (focus (simp only [go_sem, *]; rfl)); (focus rfl); (with_reducible apply runD_go); simp only [go_sem, *])
    | ((with_reducible apply runO_skipF); (focus (simp only [go_sem, *]; rfl)); (focus rfl); (with_reducible apply runO_go); simp only [go_sem, *])
    | ((first | (with_reducible apply runA_and) | (with_reducible apply runO_and) | (with_reducible apply runD_and)); (focus (first | assumption | (simp only [go_sem, *]; done) | (simp only [go_sem, *]; assumption))); (try simp only [go_sem, *]))
    | ((with_reducible apply run_ret Try.func33 res33 (H' := H)); (focus (simp only [go_sem, *]; rfl)); (focus trivial); (focus (repeat (first | assumption | exact Heap.sub_refl _ | refine Heap.sub_congr ?_ | refine Heap.sub_set ?_ (by assumption) | refine Heap.sub_set2 ?_ (by first | assumption | (simp only [*]; done) | (simp only [Heap.set_none', ne_eq, *, not_false_eq_true, and_self]; done))))))
    | ((with_reducible apply run_end Try.func33 res33 (H' := H)); (focus (simp only [go_sem, *]; rfl)); (focus trivial); (focus (repeat (first | assumption | exact Heap.sub_refl _ | refine Heap.sub_congr ?_ | refine Heap.sub_set ?_ (by assumption) | refine Heap.sub_set2 ?_ (by first | assumption | (simp only [*]; done) | (simp only [Heap.set_none', ne_eq, *, not_false_eq_true, and_self]; done)))))))
        refine IH.out (a.length - (i + 1)) _ _ (by omega) ⟨i + 1, by omega, rfl, (by simp only [go_sem, *]), (by simp only [go_sem, *]), (by simp only [go_sem, *]), (by simp only [go_sem, *]), (by simp only [go_sem, *]), all_range_succ HA2.out HA3.out, rfl⟩
    · obtain rfl : i = a.length := by omega
      clear hLg
      repeat' (first
    | (with_reducible apply run_seq)
    | (with_reducible apply run_block)
    | (with_reducible apply run_inBlock)
    | (with_reducible apply run_skip)
    | (with_reducible apply run_exit rfl)
    | ((with_reducible apply run_go); simp only [go_sem, *])
    | ((with_reducible apply run_drawGo (fun _ => false) mixed); (focus kernel_rfl); simp only [go_sem, *])
    | ((with_reducible apply run_cond_t); (focus (simp only [go_sem, *]; done)))
    | ((with_reducible apply run_cond_f); (focus (simp only [go_sem, *]; done)))
    | ((with_reducible apply run_cond); (focus (simp only [go_sem, *]; rfl)); (all_goals intro _))
    | ((with_reducible apply runO_box); (focus (simp only [go_sem, *]; done)); intro pb hpb; (try simp only [Heap.set_none'] at hpb); (with_reducible apply runO_go); simp only [go_sem, *])
    | ((with_reducible apply runO_alloc); (focus (simp only [go_sem, *]; rfl)); intro pb hpb; (try simp only [Heap.set_none'] at hpb); (with_reducible apply runO_go); simp only [go_sem, *])
    | ((with_reducible apply runD_box); (focus (simp only [go_sem, *]; done)); intro pb hpb; (try simp only [Heap.set_none'] at hpb); (with_reducible apply runD_go); simp only [go_sem, *])
    | ((with_reducible apply runD_alloc); (focus (simp only [go_sem, *]; rfl)); intro pb hpb; (try simp only [Heap.set_none'] at hpb); (with_reducible apply runD_go); simp only [go_sem, *])
    | ((with_reducible apply runO_makeMap); intro pb hpb; (try simp only [Heap.set_none'] at hpb); (with_reducible apply runO_go); simp only [go_sem, *])
    | ((with_reducible apply runO_store); (focus (simp only [go_sem]; rfl)); (focus (simp only [go_sem, *]; rfl)); (focus (simp only [go_sem, *]; rfl)); (focus (simp only [go_sem, *]; done)); (focus (simp only [go_sem, *]; done)); (focus (simp only [go_sem, *]; done)); (with_reducible apply runO_go); simp only [go_sem, *, Heap.set_set])
    | ((with_reducible apply runD_store); (focus (simp only [go_sem]; rfl)); (focus (simp only [go_sem, *]; rfl)); (focus (simp only [go_sem, *]; rfl)); (focus (simp only [go_sem, *]; done)); (focus (simp only [go_sem, *]; done)); (focus (simp only [go_sem, *]; done)); (with_reducible apply runD_go); simp only [go_sem, *, Heap.set_set])
    | ((with_reducible apply runD_skipF); (focus rfl); (focus (simp only [go_sem, *]; rfl)); (focus rfl); (with_reducible apply runD_go); simp only [go_sem, *])
    | ((with_reducible apply runO_skipF); (focus (simp only [go_sem, *]; rfl)); (focus rfl); (with_reducible apply runO_go); simp only [go_sem, *])
    | ((first | (with_reducible apply runA_and) | (with_reducible apply runO_and) | (with_reducible apply runD_and)); (focus (first | assumption | (simp only [go_sem, *]; done) | (simp only [go_sem, *]; assumption))); (try simp only [go_sem, *]))
    | ((with_reducible apply run_ret Try.func33 res33 (H' := H)); (focus (simp only [go_sem, *]; rfl)); (focus trivial); (focus (repeat (first | assumption | exact Heap.sub_refl _ | refine Heap.sub_congr ?_ | refine Heap.sub_set ?_ (by assumption) | refine Heap.sub_set2 ?_ (by first | assumption | (simp only [*]; done) | (simp only [Heap.set_none', ne_eq, *, not_false_eq_true, and_self]; done))))))
    | ((with_reducible apply run_end Try.func33 res33 (H' := H)); (focus (simp only [go_sem, *]; rfl)); (focus trivial); (focus (repeat (first | assumption | exact Heap.sub_refl _ | refine Heap.sub_congr ?_ | refine Heap.sub_set ?_ (by assumption) | refine Heap.sub_set2 ?_ (by first | assumption | (simp only [*]; done) | (simp only [Heap.set_none', ne_eq, *, not_false_eq_true, and_self]; done)))))))
      refine ⟨?_, rfl⟩
      have hyes : sameR a b = true := by
        unfold sameR
        rw [hra, hrb, HA.out, HA2.out, decide_eq_true HL.out]
        rfl
      rw [hyes]; rfl
end Go.Proofs.Ytakaimfpicjpaaa
