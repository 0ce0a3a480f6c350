/-
  Contracts: the law of reading events.
-/
import Derived.Test.YtoemhlgefpjieaaEventE
set_option linter.unusedSimpArgs false
set_option linter.unusedVariables false
namespace Go.Proofs.Ytoemhlgefpjieaa
open Go Go.Sn Go.RowKit

theorem byte_evOf (b : UInt8) : byteE (evOf b) = (b.toNat : Int) := by
  have h := b.toNat_lt
  unfold byteE evOf
  simp only [decide_eq_true_eq]
  split <;> omega

theorem rdE_some {s : List UInt8} {es : List Ev} (h : rdE s = some es) : es.all rightR = true ∧ es = s.map evOf ∧ strOfNums (prE es) = strL s := by
  unfold rdE at h
  split at h
  · rename_i ha
    cases h
    have h1 : (s.map evOf).all rightR = true := by rw [List.all_map]; exact ha
    refine ⟨h1, rfl, ?_⟩
    rw [prE, if_pos h1, strOfNums, strL, List.map_map, List.map_map]
    congr 2
    conv => rhs; rw [← List.map_id s]
    refine List.map_congr_left fun b _ => ?_
    simp [Function.comp, byte_evOf]
  · cases h

/-- What the bytes of events read as. -/
def back (a : List Ev) : List Ev := if a.all rightR then a else []
theorem rdE_back (a : List Ev) : rdE (strOfNums (prE a)).data.toList = some (back a) := by
  by_cases h : a.all rightR = true
  · have h1 : (strOfNums (prE a)).data.toList.all (fun b => rightR (evOf b)) = true := by
      have := evs_bytes h
      have h2 : ((strOfNums (prE a)).data.toList.map evOf).all rightR = true := by rw [this]; exact h
      rwa [List.all_map] at h2
    rw [rdE, if_pos h1, evs_bytes h, back, if_pos h]
  · rw [prE, if_neg h, back, if_neg h]; rfl

theorem back_len (a : List Ev) : (back a).length ≤ a.length := by unfold back; split <;> simp

theorem reads_law (a : List Ev) : (decide ((strOfNums (prE a)).data.toList = []) || decide (back a = a)) = true := by
  by_cases h : a.all rightR = true
  · simp [back, h]
  · have : prE a = [] := by rw [prE, if_neg h]
    rw [this]
    rfl

set_option maxHeartbeats 1000000 in
theorem eventReads_call (W : World) (H : Heap) (a : List Ev) (s : List UInt8) :
    CallA Try.prog W 4 [.list (evsC a), .v (.string (strL s))] H fun r H' => r = .v (.bool true) := by
  refine call_in Try.func4 rfl Try.ntmps4 (by simp) ?_
  repeat' (first
    | (with_reducible apply run_seq)
    | (with_reducible apply run_block)
    | (with_reducible apply run_inBlock)
    | (with_reducible apply run_skip)
    | (with_reducible apply run_exit rfl)
    | ((with_reducible apply run_go); simp only [go_sem, *])
    | ((with_reducible apply run_drawGo mixed); (focus kernel_rfl); simp only [go_sem, *])
    | ((with_reducible apply run_cond_t); (focus (simp only [go_sem, *]; done)))
    | ((with_reducible apply run_cond_f); (focus (simp only [go_sem, *]; done)))
    | ((with_reducible apply run_cond); (focus (simp only [go_sem, *]; rfl)); (all_goals intro _))
    | ((with_reducible apply runO_box); (focus (simp only [go_sem, *]; done)); intro pb hpb; (try simp only [Heap.set_none'] at hpb); (with_reducible apply runO_go); simp only [go_sem, *])
    | ((with_reducible apply runO_alloc); (focus (simp only [go_sem, *]; rfl)); intro pb hpb; (try simp only [Heap.set_none'] at hpb); (with_reducible apply runO_go); simp only [go_sem, *])
    | ((with_reducible apply runO_store); (focus (simp only [go_sem]; rfl)); (focus (simp only [go_sem, *]; rfl)); (focus (simp only [go_sem, *]; rfl)); (focus (simp only [go_sem, *]; done)); (focus (simp only [go_sem, *]; done)); (focus (simp only [go_sem, *]; done)); (with_reducible apply runO_go); simp only [go_sem, *, Heap.set_set])
    | ((with_reducible apply runO_callF known12); simp only [go_sem, *]; refine (awake_call W _).use ?_; (with_reducible apply runO_go); simp only [go_sem, *])
    | ((with_reducible apply runO_callFG known12); (focus (simp only [go_sem, *]; rfl)); (focus (intro _; simp only [go_sem, *]; exact awake_call W _)); (with_reducible apply runO_go); simp only [go_sem, *])
    | ((with_reducible apply runD_callF known12); (focus (simp only [go_sem, *]; exact awake_call W _)); (with_reducible apply runD_go); simp only [go_sem, *])
    | ((with_reducible apply runD_callFG known12); (focus (simp only [go_sem, *]; rfl)); (focus (intro _; simp only [go_sem, *]; exact awake_call W _)); (with_reducible apply runD_go); simp only [go_sem, *])
    | ((with_reducible apply run_ret Try.func4 res4 (H' := H)); (focus (simp only [go_sem, *]; rfl)); (focus trivial); (focus (repeat (first | assumption | exact Heap.sub_refl _ | refine Heap.sub_set ?_ (by assumption) | refine Heap.sub_set2 ?_ (by first | assumption | (simp only [*]; done))))))
    | ((with_reducible apply run_end Try.func4 res4 (H' := H)); (focus (simp only [go_sem, *]; rfl)); (focus trivial); (focus (repeat (first | assumption | exact Heap.sub_refl _ | refine Heap.sub_set ?_ (by assumption) | refine Heap.sub_set2 ?_ (by first | assumption | (simp only [*]; done)))))))
  · rfl
  rename_i hsz
  simp only [Bool.or_eq_false_iff, decide_eq_false_iff_not] at hsz
  have ha : a.length ≤ 100 := by omega
  have hs : s.length ≤ 300 := by omega
  clear hsz
  repeat' (first
    | (with_reducible apply run_seq)
    | (with_reducible apply run_block)
    | (with_reducible apply run_inBlock)
    | (with_reducible apply run_skip)
    | (with_reducible apply run_exit rfl)
    | ((with_reducible apply run_go); simp only [go_sem, *])
    | ((with_reducible apply run_drawGo mixed); (focus kernel_rfl); simp only [go_sem, *])
    | ((with_reducible apply run_cond_t); (focus (simp only [go_sem, *]; done)))
    | ((with_reducible apply run_cond_f); (focus (simp only [go_sem, *]; done)))
    | ((with_reducible apply run_cond); (focus (simp only [go_sem, *]; rfl)); (all_goals intro _))
    | ((with_reducible apply runO_box); (focus (simp only [go_sem, *]; done)); intro pb hpb; (try simp only [Heap.set_none'] at hpb); (with_reducible apply runO_go); simp only [go_sem, *])
    | ((with_reducible apply runO_alloc); (focus (simp only [go_sem, *]; rfl)); intro pb hpb; (try simp only [Heap.set_none'] at hpb); (with_reducible apply runO_go); simp only [go_sem, *])
    | ((with_reducible apply runO_store); (focus (simp only [go_sem]; rfl)); (focus (simp only [go_sem, *]; rfl)); (focus (simp only [go_sem, *]; rfl)); (focus (simp only [go_sem, *]; done)); (focus (simp only [go_sem, *]; done)); (focus (simp only [go_sem, *]; done)); (with_reducible apply runO_go); simp only [go_sem, *, Heap.set_set])
    | ((with_reducible apply runO_buildSlice); (focus (simp only [go_sem]; rfl)); (focus (simp only [go_sem]; rfl)); (focus (simp only [go_sem]; rfl)); (focus rfl); (focus rfl); (focus (simp only [go_sem, *]; done)); (focus (simp only [go_sem, *]; done)); (focus decide); (with_reducible apply runO_go); simp only [go_sem, *])
    | ((with_reducible apply runO_buildSliceG); (focus (simp only [go_sem, *]; rfl)); (focus (simp only [go_sem]; rfl)); (focus (simp only [go_sem]; rfl)); (focus (simp only [go_sem]; rfl)); (focus rfl); (focus rfl); (focus (simp only [go_sem, *]; done)); (focus (simp only [go_sem, *]; done)); (focus decide); (with_reducible apply runO_go); simp only [go_sem, *])
    | ((with_reducible apply runD_buildSlice); (focus (simp only [go_sem]; rfl)); (focus (simp only [go_sem]; rfl)); (focus (simp only [go_sem]; rfl)); (focus rfl); (focus rfl); (focus (simp only [go_sem, *]; done)); (focus (simp only [go_sem, *]; done)); (focus decide); (with_reducible apply runD_go); simp only [go_sem, *])
    | ((with_reducible apply runD_buildSliceG); (focus (simp only [go_sem, *]; rfl)); (focus (simp only [go_sem]; rfl)); (focus (simp only [go_sem]; rfl)); (focus (simp only [go_sem]; rfl)); (focus rfl); (focus rfl); (focus (simp only [go_sem, *]; done)); (focus (simp only [go_sem, *]; done)); (focus decide); (with_reducible apply runD_go); simp only [go_sem, *])
    | ((with_reducible apply run_ret Try.func4 res4 (H' := H)); (focus (simp only [go_sem, *]; rfl)); (focus trivial); (focus (repeat (first | assumption | exact Heap.sub_refl _ | refine Heap.sub_set ?_ (by assumption) | refine Heap.sub_set2 ?_ (by first | assumption | (simp only [*]; done))))))
    | ((with_reducible apply run_end Try.func4 res4 (H' := H)); (focus (simp only [go_sem, *]; rfl)); (focus trivial); (focus (repeat (first | assumption | exact Heap.sub_refl _ | refine Heap.sub_set ?_ (by assumption) | refine Heap.sub_set2 ?_ (by first | assumption | (simp only [*]; done)))))))
  have hc0 : Coll H 23 4 (evsC ([] : List Ev)) .nil H := .none rfl
  (refine runO_collL (t := 27) Try.underlying27 sz23 by23 zr23 rfl (by simp only [go_sem, *]; exact hc0) (by simp only [go_sem, *]; rfl) (evsC_all _) (evsC_all _) (by simp only [intsC_length, evsC_length, numsC_length, List.length_map, List.length_take, List.length_cons, List.length_nil, List.length_append]; omega) (by simp only [maxLen, intsC_length, evsC_length, numsC_length, List.length_map, List.length_take, List.length_cons, List.length_nil, List.length_append]; omega) ?_; (with_reducible apply runO_go); simp only [go_sem, *])
  have c1 := fun H => print_call W H a (by omega)
  have c2 := fun H => printR_call W H a (by omega)
  have c3 := fun H => read_call W H s (by omega)
  have c4 := fun H => readR_call W H s (by omega)
  have c5 : ∀ H, CallA Try.prog W 18 [.v (.string (strOfNums (prE a)))] H fun r H' => r = .tup [.list (evsC (back a)), .v (.int .i64 0)] ∧ H' = H := by
    intro H
    have hl : (strOfNums (prE a)).data.toList.length ≤ 100 := by
      rw [strOfNums_data, List.length_map]
      unfold prE; split
      · rw [List.length_map]; exact ha
      · simp
    have h := read_call W H (strOfNums (prE a)).data.toList (by omega)
    rw [rdE_back] at h
    exact h
  have c6 := fun H => threads_call W H a (by omega)
  have c7 := fun H => threadsR_call W H a (by omega)
  have c8 := fun H => sameInts_call W H (a.map (·.th)) (a.map (·.th)) (by simp; omega)
  have c9 := fun H => sameEvents_call W H (back a) a (by have := back_len a; omega)
  clear hc0
  cases hr : rdE s with
  | none =>
    simp only [hr] at c3 c4
    have d1 := fun H => sameEvents_call W H [] [] (by simp)
    have d2 := fun H => print_call W H [] (by simp)
    simp only [evsC, List.map_nil] at d1 d2
    repeat' (first
    | (with_reducible apply run_seq)
    | (with_reducible apply run_block)
    | (with_reducible apply run_inBlock)
    | (with_reducible apply run_skip)
    | (with_reducible apply run_exit rfl)
    | ((with_reducible apply run_go); simp only [go_sem, *])
    | ((with_reducible apply run_drawGo mixed); (focus kernel_rfl); simp only [go_sem, *])
    | ((with_reducible apply run_cond_t); (focus (simp only [go_sem, *]; done)))
    | ((with_reducible apply run_cond_f); (focus (simp only [go_sem, *]; done)))
    | ((with_reducible apply run_cond); (focus (simp only [go_sem, *]; rfl)); (all_goals intro _))
    | ((with_reducible apply runO_box); (focus (simp only [go_sem, *]; done)); intro pb hpb; (try simp only [Heap.set_none'] at hpb); (with_reducible apply runO_go); simp only [go_sem, *])
    | ((with_reducible apply runO_alloc); (focus (simp only [go_sem, *]; rfl)); intro pb hpb; (try simp only [Heap.set_none'] at hpb); (with_reducible apply runO_go); simp only [go_sem, *])
    | ((with_reducible apply runO_store); (focus (simp only [go_sem]; rfl)); (focus (simp only [go_sem, *]; rfl)); (focus (simp only [go_sem, *]; rfl)); (focus (simp only [go_sem, *]; done)); (focus (simp only [go_sem, *]; done)); (focus (simp only [go_sem, *]; done)); (with_reducible apply runO_go); simp only [go_sem, *, Heap.set_set])
    | ((with_reducible apply runO_callF known17); simp only [go_sem, *]; refine (c1 _).use ?_; (with_reducible apply runO_go); simp only [go_sem, *])
    | ((with_reducible apply runO_callFG known17); (focus (simp only [go_sem, *]; rfl)); (focus (intro _; simp only [go_sem, *]; exact c1 _)); (with_reducible apply runO_go); simp only [go_sem, *])
    | ((with_reducible apply runD_callF known17); (focus (simp only [go_sem, *]; exact c1 _)); (with_reducible apply runD_go); simp only [go_sem, *])
    | ((with_reducible apply runD_callFG known17); (focus (simp only [go_sem, *]; rfl)); (focus (intro _; simp only [go_sem, *]; exact c1 _)); (with_reducible apply runD_go); simp only [go_sem, *])
      | ((with_reducible apply runO_callF known17); simp only [go_sem, *]; refine (d2 _).use ?_; (with_reducible apply runO_go); simp only [go_sem, *])
    | ((with_reducible apply runO_callFG known17); (focus (simp only [go_sem, *]; rfl)); (focus (intro _; simp only [go_sem, *]; exact d2 _)); (with_reducible apply runO_go); simp only [go_sem, *])
    | ((with_reducible apply runD_callF known17); (focus (simp only [go_sem, *]; exact d2 _)); (with_reducible apply runD_go); simp only [go_sem, *])
    | ((with_reducible apply runD_callFG known17); (focus (simp only [go_sem, *]; rfl)); (focus (intro _; simp only [go_sem, *]; exact d2 _)); (with_reducible apply runD_go); simp only [go_sem, *])
      | ((with_reducible apply runO_callF known20); simp only [go_sem, *]; refine (c2 _).use ?_; (with_reducible apply runO_go); simp only [go_sem, *])
    | ((with_reducible apply runO_callFG known20); (focus (simp only [go_sem, *]; rfl)); (focus (intro _; simp only [go_sem, *]; exact c2 _)); (with_reducible apply runO_go); simp only [go_sem, *])
    | ((with_reducible apply runD_callF known20); (focus (simp only [go_sem, *]; exact c2 _)); (with_reducible apply runD_go); simp only [go_sem, *])
    | ((with_reducible apply runD_callFG known20); (focus (simp only [go_sem, *]; rfl)); (focus (intro _; simp only [go_sem, *]; exact c2 _)); (with_reducible apply runD_go); simp only [go_sem, *])
      | ((with_reducible apply runO_callF known18); simp only [go_sem, *]; refine (c3 _).use ?_; (with_reducible apply runO_go); simp only [go_sem, *])
    | ((with_reducible apply runO_callFG known18); (focus (simp only [go_sem, *]; rfl)); (focus (intro _; simp only [go_sem, *]; exact c3 _)); (with_reducible apply runO_go); simp only [go_sem, *])
    | ((with_reducible apply runD_callF known18); (focus (simp only [go_sem, *]; exact c3 _)); (with_reducible apply runD_go); simp only [go_sem, *])
    | ((with_reducible apply runD_callFG known18); (focus (simp only [go_sem, *]; rfl)); (focus (intro _; simp only [go_sem, *]; exact c3 _)); (with_reducible apply runD_go); simp only [go_sem, *])
      | ((with_reducible apply runO_callF known19); simp only [go_sem, *]; refine (c4 _).use ?_; (with_reducible apply runO_go); simp only [go_sem, *])
    | ((with_reducible apply runO_callFG known19); (focus (simp only [go_sem, *]; rfl)); (focus (intro _; simp only [go_sem, *]; exact c4 _)); (with_reducible apply runO_go); simp only [go_sem, *])
    | ((with_reducible apply runD_callF known19); (focus (simp only [go_sem, *]; exact c4 _)); (with_reducible apply runD_go); simp only [go_sem, *])
    | ((with_reducible apply runD_callFG known19); (focus (simp only [go_sem, *]; rfl)); (focus (intro _; simp only [go_sem, *]; exact c4 _)); (with_reducible apply runD_go); simp only [go_sem, *])
      | ((with_reducible apply runO_callF known21); simp only [go_sem, *]; refine (d1 _).use ?_; (with_reducible apply runO_go); simp only [go_sem, *])
    | ((with_reducible apply runO_callFG known21); (focus (simp only [go_sem, *]; rfl)); (focus (intro _; simp only [go_sem, *]; exact d1 _)); (with_reducible apply runO_go); simp only [go_sem, *])
    | ((with_reducible apply runD_callF known21); (focus (simp only [go_sem, *]; exact d1 _)); (with_reducible apply runD_go); simp only [go_sem, *])
    | ((with_reducible apply runD_callFG known21); (focus (simp only [go_sem, *]; rfl)); (focus (intro _; simp only [go_sem, *]; exact d1 _)); (with_reducible apply runD_go); simp only [go_sem, *])
      | ((with_reducible apply runO_callF known18); simp only [go_sem, *]; refine (c5 _).use ?_; (with_reducible apply runO_go); simp only [go_sem, *])
    | ((with_reducible apply runO_callFG known18); (focus (simp only [go_sem, *]; rfl)); (focus (intro _; simp only [go_sem, *]; exact c5 _)); (with_reducible apply runO_go); simp only [go_sem, *])
    | ((with_reducible apply runD_callF known18); (focus (simp only [go_sem, *]; exact c5 _)); (with_reducible apply runD_go); simp only [go_sem, *])
    | ((with_reducible apply runD_callFG known18); (focus (simp only [go_sem, *]; rfl)); (focus (intro _; simp only [go_sem, *]; exact c5 _)); (with_reducible apply runD_go); simp only [go_sem, *])
      | ((with_reducible apply runO_callF known23); simp only [go_sem, *]; refine (c6 _).use ?_; (with_reducible apply runO_go); simp only [go_sem, *])
    | ((with_reducible apply runO_callFG known23); (focus (simp only [go_sem, *]; rfl)); (focus (intro _; simp only [go_sem, *]; exact c6 _)); (with_reducible apply runO_go); simp only [go_sem, *])
    | ((with_reducible apply runD_callF known23); (focus (simp only [go_sem, *]; exact c6 _)); (with_reducible apply runD_go); simp only [go_sem, *])
    | ((with_reducible apply runD_callFG known23); (focus (simp only [go_sem, *]; rfl)); (focus (intro _; simp only [go_sem, *]; exact c6 _)); (with_reducible apply runD_go); simp only [go_sem, *])
      | ((with_reducible apply runO_callF known24); simp only [go_sem, *]; refine (c7 _).use ?_; (with_reducible apply runO_go); simp only [go_sem, *])
    | ((with_reducible apply runO_callFG known24); (focus (simp only [go_sem, *]; rfl)); (focus (intro _; simp only [go_sem, *]; exact c7 _)); (with_reducible apply runO_go); simp only [go_sem, *])
    | ((with_reducible apply runD_callF known24); (focus (simp only [go_sem, *]; exact c7 _)); (with_reducible apply runD_go); simp only [go_sem, *])
    | ((with_reducible apply runD_callFG known24); (focus (simp only [go_sem, *]; rfl)); (focus (intro _; simp only [go_sem, *]; exact c7 _)); (with_reducible apply runD_go); simp only [go_sem, *])
      | ((with_reducible apply runO_callF known22); simp only [go_sem, *]; refine (c8 _).use ?_; (with_reducible apply runO_go); simp only [go_sem, *])
    | ((with_reducible apply runO_callFG known22); (focus (simp only [go_sem, *]; rfl)); (focus (intro _; simp only [go_sem, *]; exact c8 _)); (with_reducible apply runO_go); simp only [go_sem, *])
    | ((with_reducible apply runD_callF known22); (focus (simp only [go_sem, *]; exact c8 _)); (with_reducible apply runD_go); simp only [go_sem, *])
    | ((with_reducible apply runD_callFG known22); (focus (simp only [go_sem, *]; rfl)); (focus (intro _; simp only [go_sem, *]; exact c8 _)); (with_reducible apply runD_go); simp only [go_sem, *])
      | ((with_reducible apply runO_callF known21); simp only [go_sem, *]; refine (c9 _).use ?_; (with_reducible apply runO_go); simp only [go_sem, *])
    | ((with_reducible apply runO_callFG known21); (focus (simp only [go_sem, *]; rfl)); (focus (intro _; simp only [go_sem, *]; exact c9 _)); (with_reducible apply runO_go); simp only [go_sem, *])
    | ((with_reducible apply runD_callF known21); (focus (simp only [go_sem, *]; exact c9 _)); (with_reducible apply runD_go); simp only [go_sem, *])
    | ((with_reducible apply runD_callFG known21); (focus (simp only [go_sem, *]; rfl)); (focus (intro _; simp only [go_sem, *]; exact c9 _)); (with_reducible apply runD_go); simp only [go_sem, *])
    | ((with_reducible apply run_ret Try.func4 res4 (H' := H)); (focus (simp only [go_sem, *]; rfl)); (focus trivial); (focus (repeat (first | assumption | exact Heap.sub_refl _ | refine Heap.sub_set ?_ (by assumption) | refine Heap.sub_set2 ?_ (by first | assumption | (simp only [*]; done))))))
    | ((with_reducible apply run_end Try.func4 res4 (H' := H)); (focus (simp only [go_sem, *]; rfl)); (focus trivial); (focus (repeat (first | assumption | exact Heap.sub_refl _ | refine Heap.sub_set ?_ (by assumption) | refine Heap.sub_set2 ?_ (by first | assumption | (simp only [*]; done)))))))
    rw [reads_law]; rfl
  | some es =>
    obtain ⟨e1, e2, e3⟩ := rdE_some hr
    have hel : es.length ≤ 300 := by rw [e2]; simpa using hs
    simp only [hr] at c3 c4
    have d1 := fun H => sameEvents_call W H es es (by omega)
    have d2 := fun H => print_call W H es (by omega)
    rw [e3] at d2
    clear e1 e2 e3
    repeat' (first
    | (with_reducible apply run_seq)
    | (with_reducible apply run_block)
    | (with_reducible apply run_inBlock)
    | (with_reducible apply run_skip)
    | (with_reducible apply run_exit rfl)
    | ((with_reducible apply run_go); simp only [go_sem, *])
    | ((with_reducible apply run_drawGo mixed); (focus kernel_rfl); simp only [go_sem, *])
    | ((with_reducible apply run_cond_t); (focus (simp only [go_sem, *]; done)))
    | ((with_reducible apply run_cond_f); (focus (simp only [go_sem, *]; done)))
    | ((with_reducible apply run_cond); (focus (simp only [go_sem, *]; rfl)); (all_goals intro _))
    | ((with_reducible apply runO_box); (focus (simp only [go_sem, *]; done)); intro pb hpb; (try simp only [Heap.set_none'] at hpb); (with_reducible apply runO_go); simp only [go_sem, *])
    | ((with_reducible apply runO_alloc); (focus (simp only [go_sem, *]; rfl)); intro pb hpb; (try simp only [Heap.set_none'] at hpb); (with_reducible apply runO_go); simp only [go_sem, *])
    | ((with_reducible apply runO_store); (focus (simp only [go_sem]; rfl)); (focus (simp only [go_sem, *]; rfl)); (focus (simp only [go_sem, *]; rfl)); (focus (simp only [go_sem, *]; done)); (focus (simp only [go_sem, *]; done)); (focus (simp only [go_sem, *]; done)); (with_reducible apply runO_go); simp only [go_sem, *, Heap.set_set])
    | ((with_reducible apply runO_callF known17); simp only [go_sem, *]; refine (c1 _).use ?_; (with_reducible apply runO_go); simp only [go_sem, *])
    | ((with_reducible apply runO_callFG known17); (focus (simp only [go_sem, *]; rfl)); (focus (intro _; simp only [go_sem, *]; exact c1 _)); (with_reducible apply runO_go); simp only [go_sem, *])
    | ((with_reducible apply runD_callF known17); (focus (simp only [go_sem, *]; exact c1 _)); (with_reducible apply runD_go); simp only [go_sem, *])
    | ((with_reducible apply runD_callFG known17); (focus (simp only [go_sem, *]; rfl)); (focus (intro _; simp only [go_sem, *]; exact c1 _)); (with_reducible apply runD_go); simp only [go_sem, *])
      | ((with_reducible apply runO_callF known17); simp only [go_sem, *]; refine (d2 _).use ?_; (with_reducible apply runO_go); simp only [go_sem, *])
    | ((with_reducible apply runO_callFG known17); (focus (simp only [go_sem, *]; rfl)); (focus (intro _; simp only [go_sem, *]; exact d2 _)); (with_reducible apply runO_go); simp only [go_sem, *])
    | ((with_reducible apply runD_callF known17); (focus (simp only [go_sem, *]; exact d2 _)); (with_reducible apply runD_go); simp only [go_sem, *])
    | ((with_reducible apply runD_callFG known17); (focus (simp only [go_sem, *]; rfl)); (focus (intro _; simp only [go_sem, *]; exact d2 _)); (with_reducible apply runD_go); simp only [go_sem, *])
      | ((with_reducible apply runO_callF known20); simp only [go_sem, *]; refine (c2 _).use ?_; (with_reducible apply runO_go); simp only [go_sem, *])
    | ((with_reducible apply runO_callFG known20); (focus (simp only [go_sem, *]; rfl)); (focus (intro _; simp only [go_sem, *]; exact c2 _)); (with_reducible apply runO_go); simp only [go_sem, *])
    | ((with_reducible apply runD_callF known20); (focus (simp only [go_sem, *]; exact c2 _)); (with_reducible apply runD_go); simp only [go_sem, *])
    | ((with_reducible apply runD_callFG known20); (focus (simp only [go_sem, *]; rfl)); (focus (intro _; simp only [go_sem, *]; exact c2 _)); (with_reducible apply runD_go); simp only [go_sem, *])
      | ((with_reducible apply runO_callF known18); simp only [go_sem, *]; refine (c3 _).use ?_; (with_reducible apply runO_go); simp only [go_sem, *])
    | ((with_reducible apply runO_callFG known18); (focus (simp only [go_sem, *]; rfl)); (focus (intro _; simp only [go_sem, *]; exact c3 _)); (with_reducible apply runO_go); simp only [go_sem, *])
    | ((with_reducible apply runD_callF known18); (focus (simp only [go_sem, *]; exact c3 _)); (with_reducible apply runD_go); simp only [go_sem, *])
    | ((with_reducible apply runD_callFG known18); (focus (simp only [go_sem, *]; rfl)); (focus (intro _; simp only [go_sem, *]; exact c3 _)); (with_reducible apply runD_go); simp only [go_sem, *])
      | ((with_reducible apply runO_callF known19); simp only [go_sem, *]; refine (c4 _).use ?_; (with_reducible apply runO_go); simp only [go_sem, *])
    | ((with_reducible apply runO_callFG known19); (focus (simp only [go_sem, *]; rfl)); (focus (intro _; simp only [go_sem, *]; exact c4 _)); (with_reducible apply runO_go); simp only [go_sem, *])
    | ((with_reducible apply runD_callF known19); (focus (simp only [go_sem, *]; exact c4 _)); (with_reducible apply runD_go); simp only [go_sem, *])
    | ((with_reducible apply runD_callFG known19); (focus (simp only [go_sem, *]; rfl)); (focus (intro _; simp only [go_sem, *]; exact c4 _)); (with_reducible apply runD_go); simp only [go_sem, *])
      | ((with_reducible apply runO_callF known21); simp only [go_sem, *]; refine (d1 _).use ?_; (with_reducible apply runO_go); simp only [go_sem, *])
    | ((with_reducible apply runO_callFG known21); (focus (simp only [go_sem, *]; rfl)); (focus (intro _; simp only [go_sem, *]; exact d1 _)); (with_reducible apply runO_go); simp only [go_sem, *])
    | ((with_reducible apply runD_callF known21); (focus (simp only [go_sem, *]; exact d1 _)); (with_reducible apply runD_go); simp only [go_sem, *])
    | ((with_reducible apply runD_callFG known21); (focus (simp only [go_sem, *]; rfl)); (focus (intro _; simp only [go_sem, *]; exact d1 _)); (with_reducible apply runD_go); simp only [go_sem, *])
      | ((with_reducible apply runO_callF known18); simp only [go_sem, *]; refine (c5 _).use ?_; (with_reducible apply runO_go); simp only [go_sem, *])
    | ((with_reducible apply runO_callFG known18); (focus (simp only [go_sem, *]; rfl)); (focus (intro _; simp only [go_sem, *]; exact c5 _)); (with_reducible apply runO_go); simp only [go_sem, *])
    | ((with_reducible apply runD_callF known18); (focus (simp only [go_sem, *]; exact c5 _)); (with_reducible apply runD_go); simp only [go_sem, *])
    | ((with_reducible apply runD_callFG known18); (focus (simp only [go_sem, *]; rfl)); (focus (intro _; simp only [go_sem, *]; exact c5 _)); (with_reducible apply runD_go); simp only [go_sem, *])
      | ((with_reducible apply runO_callF known23); simp only [go_sem, *]; refine (c6 _).use ?_; (with_reducible apply runO_go); simp only [go_sem, *])
    | ((with_reducible apply runO_callFG known23); (focus (simp only [go_sem, *]; rfl)); (focus (intro _; simp only [go_sem, *]; exact c6 _)); (with_reducible apply runO_go); simp only [go_sem, *])
    | ((with_reducible apply runD_callF known23); (focus (simp only [go_sem, *]; exact c6 _)); (with_reducible apply runD_go); simp only [go_sem, *])
    | ((with_reducible apply runD_callFG known23); (focus (simp only [go_sem, *]; rfl)); (focus (intro _; simp only [go_sem, *]; exact c6 _)); (with_reducible apply runD_go); simp only [go_sem, *])
      | ((with_reducible apply runO_callF known24); simp only [go_sem, *]; refine (c7 _).use ?_; (with_reducible apply runO_go); simp only [go_sem, *])
    | ((with_reducible apply runO_callFG known24); (focus (simp only [go_sem, *]; rfl)); (focus (intro _; simp only [go_sem, *]; exact c7 _)); (with_reducible apply runO_go); simp only [go_sem, *])
    | ((with_reducible apply runD_callF known24); (focus (simp only [go_sem, *]; exact c7 _)); (with_reducible apply runD_go); simp only [go_sem, *])
    | ((with_reducible apply runD_callFG known24); (focus (simp only [go_sem, *]; rfl)); (focus (intro _; simp only [go_sem, *]; exact c7 _)); (with_reducible apply runD_go); simp only [go_sem, *])
      | ((with_reducible apply runO_callF known22); simp only [go_sem, *]; refine (c8 _).use ?_; (with_reducible apply runO_go); simp only [go_sem, *])
    | ((with_reducible apply runO_callFG known22); (focus (simp only [go_sem, *]; rfl)); (focus (intro _; simp only [go_sem, *]; exact c8 _)); (with_reducible apply runO_go); simp only [go_sem, *])
    | ((with_reducible apply runD_callF known22); (focus (simp only [go_sem, *]; exact c8 _)); (with_reducible apply runD_go); simp only [go_sem, *])
    | ((with_reducible apply runD_callFG known22); (focus (simp only [go_sem, *]; rfl)); (focus (intro _; simp only [go_sem, *]; exact c8 _)); (with_reducible apply runD_go); simp only [go_sem, *])
      | ((with_reducible apply runO_callF known21); simp only [go_sem, *]; refine (c9 _).use ?_; (with_reducible apply runO_go); simp only [go_sem, *])
    | ((with_reducible apply runO_callFG known21); (focus (simp only [go_sem, *]; rfl)); (focus (intro _; simp only [go_sem, *]; exact c9 _)); (with_reducible apply runO_go); simp only [go_sem, *])
    | ((with_reducible apply runD_callF known21); (focus (simp only [go_sem, *]; exact c9 _)); (with_reducible apply runD_go); simp only [go_sem, *])
    | ((with_reducible apply runD_callFG known21); (focus (simp only [go_sem, *]; rfl)); (focus (intro _; simp only [go_sem, *]; exact c9 _)); (with_reducible apply runD_go); simp only [go_sem, *])
    | ((with_reducible apply run_ret Try.func4 res4 (H' := H)); (focus (simp only [go_sem, *]; rfl)); (focus trivial); (focus (repeat (first | assumption | exact Heap.sub_refl _ | refine Heap.sub_set ?_ (by assumption) | refine Heap.sub_set2 ?_ (by first | assumption | (simp only [*]; done))))))
    | ((with_reducible apply run_end Try.func4 res4 (H' := H)); (focus (simp only [go_sem, *]; rfl)); (focus trivial); (focus (repeat (first | assumption | exact Heap.sub_refl _ | refine Heap.sub_set ?_ (by assumption) | refine Heap.sub_set2 ?_ (by first | assumption | (simp only [*]; done)))))))
    rw [reads_law]; rfl
end Go.Proofs.Ytoemhlgefpjieaa
