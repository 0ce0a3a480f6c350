/-
  The law of a row's beginning.
-/
import Derived.Test.YtobdagjdhgjplaaRcH
set_option linter.unusedSimpArgs false
set_option linter.unusedVariables false
namespace Go.Proofs.Ytobdagjdhgjplaa
open Go Go.Sn Go.RowKit
-- NONE stH_none

theorem getD_take' {α : Type} [Inhabited α] (l : List α) {i k : Nat} (h : i < k) : (l.take k).getD i default = l.getD i default := by
  simp [List.getD_eq_getElem?_getD, List.getElem?_take, h]
theorem revP_take (l : List Ev) {c : Nat} : ∀ {k : Nat}, k ≤ c → revP (l.take c) k = revP l k
  | 0, _ => rfl
  | k + 1, h => by
    rw [revP_succ, revP_succ, revP_take l (by omega), List.take_take, Nat.min_eq_left (by omega), getD_take' l (by omega)]
theorem revP_split (l : List Ev) {c : Nat} : ∀ d, ∃ m, revP l (c + d) = revP l c ++ m
  | 0 => ⟨[], by simp⟩
  | d + 1 => by
    obtain ⟨m, hm⟩ := revP_split l (c := c) d
    exact ⟨m ++ racP (l.take (c + d)) (l.getD (c + d) default), by rw [← Nat.add_assoc, revP_succ, hm, List.append_assoc]⟩
theorem revE_take {l : List Ev} (h : AllR l) {c : Nat} (hc : c ≤ l.length) : ∃ m, revE l = revE (l.take c) ++ m := by
  unfold revE
  rw [if_pos h, if_pos (allR_take h c), List.length_take, Nat.min_eq_left hc, revP_take l (Nat.le_refl _)]
  obtain ⟨m, hm⟩ := revP_split l (c := c) (l.length - c)
  exact ⟨m, by rw [← hm]; congr 1; omega⟩
/-- Each race's event is ahead, of another thread. -/
theorem revP_mem {l : List Ev} {r : Rc} : ∀ {k : Nat}, k ≤ l.length → r ∈ revP l k → ∃ i j : Nat, i < j ∧ j < k ∧ r = ⟨(i : Int), (l.getD j default).th⟩ ∧ cndP (l.take j) (l.getD j default) i = true
  | 0, _, h => by simp [revP] at h
  | k + 1, hk, h => by
    rw [revP_succ] at h
    rcases List.mem_append.1 h with h | h
    · obtain ⟨i, j, h1, h2, h3⟩ := revP_mem (by omega) h
      exact ⟨i, j, h1, by omega, h3⟩
    · unfold racP rcK wiP at h
      obtain ⟨i, hi, rfl⟩ := List.mem_map.1 h
      obtain ⟨hi1, hi2⟩ := List.mem_filter.1 hi
      have := List.mem_range.1 hi1
      rw [List.length_take] at this
      exact ⟨i, k, by omega, by omega, rfl, hi2⟩
theorem cnd_ne {l : List Ev} {j i : Nat} (hi : i < j) (h : cndP (l.take j) (l.getD j default) i = true) : (l.getD i default).th ≠ (l.getD j default).th ∧ depE (l.getD i default) (l.getD j default) = true := by
  unfold cndP at h
  rw [getD_take' l hi] at h
  simp only [Bool.and_eq_true, Bool.not_eq_true', decide_eq_false_iff_not] at h
  exact h.1
theorem cuts_law {l : List Ev} (h : AllR l) {c : Nat} (hc : c ≤ l.length) : (revE (l.take c)).length ≤ (revE l).length ∧
    ∀ i, i < (revE l).length → (i < (revE (l.take c)).length → (revE (l.take c)).getD i default = (revE l).getD i default) ∧
      ∃ (m : Nat) (t : Int), (revE l).getD i default = ⟨(m : Int), t⟩ ∧ m < l.length ∧ ¬ (l.getD m default).th = t := by
  obtain ⟨m, hm⟩ := revE_take h hc
  have hE : revE l = revP l l.length := by unfold revE; rw [if_pos h]
  refine ⟨by rw [hm, List.length_append]; omega, fun i hi => ⟨fun hi2 => ?_, ?_⟩⟩
  · rw [hm]
    simp [List.getD_eq_getElem?_getD, List.getElem?_append_left hi2]
  · have hmem : (revE l).getD i default ∈ revP l l.length := by
      rw [← hE, List.getD_eq_getElem?_getD, List.getElem?_eq_getElem hi]
      exact List.getElem_mem _
    obtain ⟨a, b, h1, h2, h3, h4⟩ := revP_mem (Nat.le_refl _) hmem
    exact ⟨a, _, h3, by omega, (cnd_ne h1 h4).1⟩

@[go_sem] theorem eqCells_no (u : TypeDesc) (us : List TypeDesc) (ds : List D) : eqCells (u :: us) [] ds = none := by cases ds <;> rfl
set_option maxRecDepth 100000 in
set_option maxHeartbeats 16000000 in
theorem raceCuts_call (W : World) (H : Heap) (row : List Ev) (cut : Int) :
    CallA Try.prog W 9 [.list (evsC row), .v (.int .i64 cut)] H fun r H' => r = .v (.bool true) := by
  refine call_in Try.func9 rfl Try.ntmps9 (by simp) ?_
  have c0 := fun H => awake7_call W H
  by_cases hr : row.length ≤ 40
  · have hr' : ¬ (40 : Int) < (row.length : Int) := by omega
    have c1 := fun H => rows_call W H row (by omega)
    by_cases hR : row.all rightR = true
    · rw [hR] at c1
      obtain ⟨j, hj, ej, wj⟩ := fmod_ex cut (n := row.length + 1) (by omega) (by omega)
      have hw1 := wrap_succ (k := row.length) (by omega)
      have hun := fu64_nat (n := row.length + 1) (by omega)
      have hn0 : ¬ ((row.length + 1 : Nat) : Int) = 0 := by omega
      have hal := evsC_all row
      have hjl : j ≤ row.length := by omega
      have v1 := fun H => rev_call W H (row.take j) (by rw [List.length_take]; omega)
      have v2 := fun H => rev_call W H row (by omega)
      obtain ⟨hle, hlaw⟩ := cuts_law hR hjl
      have hb1 : (revE row).length ≤ 1000000 := by unfold revE; rw [if_pos hR]; exact revP_le row (Nat.le_refl _) (by omega)
      generalize revE (row.take j) = a at *
      generalize revE row = b at *
      have hle' : ¬ (b.length : Int) < (a.length : Int) := by omega
      repeat' (first
    | (with_reducible apply run_seq)
    | (with_reducible apply run_block)
    | (with_reducible apply run_skip)
    | ((with_reducible apply run_go); simp only [go_sem, *])
    | ((with_reducible apply run_cond_f); (focus (simp only [go_sem, *]; done)))
    | ((first | (with_reducible apply runA_and) | (with_reducible apply runO_and) | (with_reducible apply runD_and)); (focus (first | assumption | (simp only [go_sem, *]; done) | (simp only [go_sem, *]; assumption))); (try simp only [go_sem, *]))
    | ((with_reducible apply runO_callF known36); simp only [go_sem, *]; refine (c0 _).use ?_; (with_reducible apply runO_go); simp only [go_sem, *])
    | ((with_reducible apply runO_callFG known43); (focus (simp only [go_sem, *]; rfl)); (focus (intro _; simp only [go_sem, *]; exact c1 _)); (with_reducible apply runO_go); simp only [go_sem, *])
    | ((with_reducible apply runO_callF known39); simp only [go_sem, *]; refine (v1 _).use ?_; (with_reducible apply runO_go); simp only [go_sem, *])
    | ((with_reducible apply runO_callF known39); simp only [go_sem, *]; refine (v2 _).use ?_; (with_reducible apply runO_go); simp only [go_sem, *]))
      clear c0 c1 v1 v2
      refine run_loop (fun nz ez Hz => ∃ (i : Nat), i ≤ b.length ∧ nz = b.length - i ∧ ez 0 = .list (evsC row) ∧ ez 5 = .list (rcsC a) ∧ ez 6 = .list (rcsC b) ∧ ez 41 = .v (.int .i64 (b.length : Int)) ∧ ez 42 = .v (.int .i64 (i : Int)) ∧ H = Hz) (b.length)
          ⟨0, Nat.zero_le _, rfl, (by simp only [go_sem, *]), (by simp only [go_sem, *]), (by simp only [go_sem, *]), (by simp only [go_sem, *]), (by simp only [go_sem] <;> rfl), rfl⟩ ?_
      rintro nz ez Hz ih ⟨i, zk, rfl, zs0, zs5, zs6, zs41, zs42, rfl⟩
      have IHz : Hid _ := ih
      clear ih
      by_cases hlt : i < b.length
      · have hw := wrap_succ (k := i) (by omega)
        obtain ⟨hp, m, t, hbi, hm, hth⟩ := hlaw i hlt
        have hm0 : (0 : Int) ≤ (m : Int) := by omega
        have hm1 : ¬ (m : Int) < 0 := by omega
        have hm2 : ¬ (row.length : Int) ≤ (m : Int) := by omega
        by_cases hia : i < a.length
        · have hai := hp hia
          rw [hbi] at hai
          clear hp
          repeat' (first
    | (with_reducible apply run_seq)
    | (with_reducible apply run_block)
    | (with_reducible apply run_inBlock)
    | (with_reducible apply run_skip)
    | ((with_reducible apply run_go); simp only [go_sem, *])
    | ((with_reducible apply run_drawGo Cl.zero Cl.zero_plain mixed); (focus kernel_rfl); simp only [go_sem, *])
    | ((with_reducible apply run_cond_t); (focus (simp only [go_sem, *]; done)))
    | ((with_reducible apply run_cond_f); (focus (simp only [go_sem, *]; done))))
          refine IHz.out (b.length - (i + 1)) _ _ (by omega) ⟨i + 1, by omega, rfl, (by simp only [go_sem, *]), (by simp only [go_sem, *]), (by simp only [go_sem, *]), (by simp only [go_sem, *]), (by simp only [go_sem, *]), rfl⟩
        · have hsh : (rcsC a).getD i [] = [] := by simp [rcsC, List.getD, hia]
          clear hp
          repeat' (first
    | (with_reducible apply run_seq)
    | (with_reducible apply run_block)
    | (with_reducible apply run_inBlock)
    | (with_reducible apply run_skip)
    | ((with_reducible apply run_go); simp only [go_sem, *])
    | ((with_reducible apply run_drawGo Cl.zero Cl.zero_plain mixed); (focus kernel_rfl); simp only [go_sem, *])
    | ((with_reducible apply run_cond_t); (focus (simp only [go_sem, *]; done)))
    | ((with_reducible apply run_cond_f); (focus (simp only [go_sem, *]; done)))
    | ((with_reducible apply runD_skipF); (focus rfl); (focus (simp only [go_sem, *]; rfl)); (focus rfl); (with_reducible first | apply runD_go Cl.zero_plain | apply runD_goC); simp only [go_sem, *]))
          refine IHz.out (b.length - (i + 1)) _ _ (by omega) ⟨i + 1, by omega, rfl, (by simp only [go_sem, *]), (by simp only [go_sem, *]), (by simp only [go_sem, *]), (by simp only [go_sem, *]), (by simp only [go_sem, *]), rfl⟩
      · repeat' (first
    | (with_reducible apply run_seq)
    | (with_reducible apply run_exit rfl)
    | ((with_reducible apply run_go); simp only [go_sem, *])
    | ((with_reducible apply run_cond_f); (focus (simp only [go_sem, *]; done)))
    | ((with_reducible apply run_ret Try.func9 res9 (H' := H)); (focus (simp only [go_sem, *]; rfl)); (focus trivial); (focus (repeat (first | assumption | exact Heap.sub_refl _ | refine Heap.sub_congr ?_ | refine Heap.sub_set ?_ (by assumption) | refine Heap.sub_set2 ?_ (by first | assumption | (simp only [*]; done) | (simp only [Heap.set_none', stH_none, ne_eq, *, not_false_eq_true, and_self]; done)))))))
        rfl
    · rw [Bool.not_eq_true] at hR
      rw [hR] at c1
      repeat' (first
    | (with_reducible apply run_seq)
    | ((with_reducible apply run_go); simp only [go_sem, *])
    | ((with_reducible apply run_cond_t); (focus (simp only [go_sem, *]; done)))
    | ((with_reducible apply runO_callF known36); simp only [go_sem, *]; refine (c0 _).use ?_; (with_reducible apply runO_go); simp only [go_sem, *])
    | ((with_reducible apply runO_callFG known43); (focus (simp only [go_sem, *]; rfl)); (focus (intro _; simp only [go_sem, *]; exact c1 _)); (with_reducible apply runO_go); simp only [go_sem, *])
    | ((with_reducible apply run_ret Try.func9 res9 (H' := H)); (focus (simp only [go_sem, *]; rfl)); (focus trivial); (focus (repeat (first | assumption | exact Heap.sub_refl _ | refine Heap.sub_congr ?_ | refine Heap.sub_set ?_ (by assumption) | refine Heap.sub_set2 ?_ (by first | assumption | (simp only [*]; done) | (simp only [Heap.set_none', stH_none, ne_eq, *, not_false_eq_true, and_self]; done)))))))
      rfl
  · have hr' : (40 : Int) < (row.length : Int) := by omega
    repeat' (first
    | (with_reducible apply run_seq)
    | ((with_reducible apply run_go); simp only [go_sem, *])
    | ((with_reducible apply run_cond_t); (focus (simp only [go_sem, *]; done)))
    | ((with_reducible apply runO_skipF); (focus (simp only [go_sem, *]; rfl)); (focus rfl); (with_reducible apply runO_go); simp only [go_sem, *])
    | ((with_reducible apply runO_callF known36); simp only [go_sem, *]; refine (c0 _).use ?_; (with_reducible apply runO_go); simp only [go_sem, *])
    | ((with_reducible apply run_ret Try.func9 res9 (H' := H)); (focus (simp only [go_sem, *]; rfl)); (focus trivial); (focus (repeat (first | assumption | exact Heap.sub_refl _ | refine Heap.sub_congr ?_ | refine Heap.sub_set ?_ (by assumption) | refine Heap.sub_set2 ?_ (by first | assumption | (simp only [*]; done) | (simp only [Heap.set_none', stH_none, ne_eq, *, not_false_eq_true, and_self]; done)))))))
    all_goals rfl
end Go.Proofs.Ytobdagjdhgjplaa
