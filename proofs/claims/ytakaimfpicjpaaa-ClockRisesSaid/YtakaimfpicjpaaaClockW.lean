/-
  Contracts: the laws of clocks, orders and more.
-/
import Derived.Test.YtakaimfpicjpaaaClockV
set_option linter.unusedSimpArgs false
set_option linter.unusedVariables false
namespace Go.Proofs.Ytakaimfpicjpaaa
open Go Go.Sn Go.RowKit

theorem before_eq (l : List Ev) (i k : Int) : (if decide (i < 0) || decide (k < 0) || decide ((l.length : Int) ≤ i) || decide ((l.length : Int) ≤ k) || !l.all rightR then false else ordB l k.toNat i.toNat) = beforeN l i k := by
  by_cases h : 0 ≤ i ∧ 0 ≤ k ∧ i < (l.length : Int) ∧ k < (l.length : Int) ∧ l.all rightR = true
  · obtain ⟨h1, h2, h3, h4, h5⟩ := h
    rw [if_neg (by simp only [h5, Bool.or_eq_true, decide_eq_true_eq]; simp; omega)]
    obtain ⟨n, rfl⟩ : ∃ n : Nat, i = (n : Int) := ⟨i.toNat, by omega⟩
    obtain ⟨m, rfl⟩ : ∃ n : Nat, k = (n : Int) := ⟨k.toNat, by omega⟩
    rw [before_hb h5 (by omega) (by omega), Int.toNat_natCast, Int.toNat_natCast, ord_hb h5 m (by omega) n (by omega)]
  · rw [if_pos (by simp only [Bool.or_eq_true, decide_eq_true_eq]; cases h5 : l.all rightR <;> simp [h5] at h ⊢; omega), beforeN,
      if_pos (by simp only [Bool.or_eq_true, decide_eq_true_eq, imin_eq, imax_eq]; cases h5 : l.all rightR <;> simp [h5] at h ⊢; omega)]

theorem beforeR2_call (W : World) (H : Heap) (l : List Ev) (i k : Int) (hl : l.length ≤ 100000) :
    CallA Try.prog W 36 [.list (evsC l), .v (.int .i64 i), .v (.int .i64 k)] H fun r H' => r = .v (.bool (beforeN l i k)) ∧ H' = H := by
  have := beforeR_call W H l i k hl
  rwa [before_eq] at this
theorem clocksR2_call (W : World) (H : Heap) (l : List Ev) (hl : l.length ≤ 100000) :
    CallA Try.prog W 34 [.list (evsC l)] H fun r H' => r = .list (clksC (clksE l)) ∧ H' = H := by
  have h := clocksR_call W H l hl
  have e : (if l.all rightR = true then clkR l l.length else []) = clksE l := by
    unfold clksE
    by_cases h : l.all rightR = true
    · rw [if_pos h, if_pos h, clkR_eq h]
    · rw [if_neg h, if_neg h]
  rwa [e] at h

set_option maxHeartbeats 4000000 in
theorem clockTells_call (W : World) (H : Heap) (l : List Ev) (i k t : Int) :
    CallA Try.prog W 11 [.list (evsC l), .v (.int .i64 i), .v (.int .i64 k), .v (.int .i64 t)] H fun r H' => r = .v (.bool true) := by
  refine call_in Try.func11 rfl Try.ntmps11 (by simp) ?_
  repeat' (first
    | (with_reducible apply run_seq)
    | (with_reducible apply run_block)
    | (with_reducible apply run_inBlock)
    | (with_reducible apply run_skip)
    | (with_reducible apply run_exit rfl)
    | ((with_reducible apply run_go); simp only [go_sem, *])
    | ((with_reducible apply run_drawGo (fun _ => false) mixed); (focus kernel_rfl); simp only [go_sem, *])
    | ((with_reducible apply run_cond_t); (focus (simp only [go_sem, *]; done)))
    | ((with_reducible apply run_cond_f); (focus (simp only [go_sem, *]; done)))
    | ((with_reducible apply run_cond); (focus (simp only [go_sem, *]; rfl)); (all_goals intro _))
    | ((with_reducible apply runO_box); (focus (simp only [go_sem, *]; done)); intro pb hpb; (try simp only [Heap.set_none'] at hpb); (with_reducible apply runO_go); simp only [go_sem, *])
    | ((with_reducible apply runO_alloc); (focus (simp only [go_sem, *]; rfl)); intro pb hpb; (try simp only [Heap.set_none'] at hpb); (with_reducible apply runO_go); simp only [go_sem, *])
    | ((with_reducible apply runD_box); (focus (simp only [go_sem, *]; done)); intro pb hpb; (try simp only [Heap.set_none'] at hpb); (with_reducible apply runD_go); simp only [go_sem, *])
    | ((with_reducible apply runD_alloc); (focus (simp only [go_sem, *]; rfl)); intro pb hpb; (try simp only [Heap.set_none'] at hpb); (with_reducible apply runD_go); simp only [go_sem, *])
    | ((with_reducible apply runO_makeMap); intro pb hpb; (try simp only [Heap.set_none'] at hpb); (with_reducible apply runO_go); simp only [go_sem, *])
    | ((with_reducible apply runO_store); (focus (simp only [go_sem]; rfl)); (focus (simp only [go_sem, *]; rfl)); (focus (simp only [go_sem, *]; rfl)); (focus (simp only [go_sem, *]; done)); (focus (simp only [go_sem, *]; done)); (focus (simp only [go_sem, *]; done)); (with_reducible apply runO_go); simp only [go_sem, *, Heap.set_set])
    | ((with_reducible apply runD_store); (focus (simp only [go_sem]; rfl)); (focus (simp only [go_sem, *]; rfl)); (focus (simp only [go_sem, *]; rfl)); (focus (simp only [go_sem, *]; done)); (focus (simp only [go_sem, *]; done)); (focus (simp only [go_sem, *]; done)); (with_reducible apply runD_go); simp only [go_sem, *, Heap.set_set])
    | ((with_reducible apply runD_skipF); (focus rfl); (focus (simp only [go_sem, *]; rfl)); (focus rfl); (with_reducible apply runD_go); simp only [go_sem, *])
    | ((with_reducible apply runO_skipF); (focus (simp only [go_sem, *]; rfl)); (focus rfl); (with_reducible apply runO_go); simp only [go_sem, *])
    | ((first | (with_reducible apply runA_and) | (with_reducible apply runO_and) | (with_reducible apply runD_and)); (focus (first | assumption | (simp only [go_sem, *]; done) | (simp only [go_sem, *]; assumption))); (try simp only [go_sem, *]))
    | ((with_reducible apply runO_callF known26); simp only [go_sem, *]; refine (awake4_call W _).use ?_; (with_reducible apply runO_go); simp only [go_sem, *])
    | ((with_reducible apply runO_callFG known26); (focus (simp only [go_sem, *]; rfl)); (focus (intro _; simp only [go_sem, *]; exact awake4_call W _)); (with_reducible apply runO_go); simp only [go_sem, *])
    | ((with_reducible apply runD_callF known26); (focus (simp only [go_sem, *]; exact awake4_call W _)); (with_reducible apply runD_go); simp only [go_sem, *])
    | ((with_reducible apply runD_callFG known26); (focus rfl); (focus (simp only [go_sem, *]; rfl)); (focus (intro _; simp only [go_sem, *]; exact awake4_call W _)); (with_reducible apply runD_go); simp only [go_sem, *])
    | ((with_reducible apply run_ret Try.func11 res11 (H' := H)); (focus (simp only [go_sem, *]; rfl)); (focus trivial); (focus (repeat (first | assumption | exact Heap.sub_refl _ | refine Heap.sub_congr ?_ | refine Heap.sub_set ?_ (by assumption) | refine Heap.sub_set2 ?_ (by first | assumption | (simp only [*]; done) | (simp only [Heap.set_none', ne_eq, *, not_false_eq_true, and_self]; done))))))
    | ((with_reducible apply run_end Try.func11 res11 (H' := H)); (focus (simp only [go_sem, *]; rfl)); (focus trivial); (focus (repeat (first | assumption | exact Heap.sub_refl _ | refine Heap.sub_congr ?_ | refine Heap.sub_set ?_ (by assumption) | refine Heap.sub_set2 ?_ (by first | assumption | (simp only [*]; done) | (simp only [Heap.set_none', ne_eq, *, not_false_eq_true, and_self]; done)))))))
  · rfl
  rename_i h
  simp only [decide_eq_false_iff_not] at h
  have hl : l.length ≤ 40 := by omega
  clear h
  have c1 := fun H => clocks_call W H l (by omega)
  have c2 := fun H => clocksR2_call W H l (by omega)
  have c3 := fun H => number_call W H l i (by omega)
  have c4 := fun H => numberR_call W H l i (by omega)
  have c5 := fun H => before_call W H l i k (by omega)
  have c6 := fun H => beforeR2_call W H l i k (by omega)
  have c7 := fun H => last_call W H l t (by omega)
  by_cases hall : l.all rightR = true
  · have hc : clksE l = clkU l l.length := by rw [clksE, if_pos hall]
    have hlast : lastE l t = lastU l t l.length := by rw [lastE, if_pos hall]
    have hcl : (clkU l l.length).length = l.length := clkU_length l l.length
    rw [hc] at c1 c2
    rw [hlast] at c7
    clear hc hlast
    have HA : Hid _ := hall
    clear hall
    repeat' (first
    | (with_reducible apply run_seq)
    | (with_reducible apply run_block)
    | (with_reducible apply run_inBlock)
    | (with_reducible apply run_skip)
    | (with_reducible apply run_exit rfl)
    | ((with_reducible apply run_go); simp only [go_sem, *])
    | ((with_reducible apply run_drawGo (fun _ => false) mixed); (focus kernel_rfl); simp only [go_sem, *])
    | ((with_reducible apply run_cond_t); (focus (simp only [go_sem, *]; done)))
    | ((with_reducible apply run_cond_f); (focus (simp only [go_sem, *]; done)))
    | ((with_reducible apply run_cond); (focus (simp only [go_sem, *]; rfl)); (all_goals intro _))
    | ((with_reducible apply runO_box); (focus (simp only [go_sem, *]; done)); intro pb hpb; (try simp only [Heap.set_none'] at hpb); (with_reducible apply runO_go); simp only [go_sem, *])
    | ((with_reducible apply runO_alloc); (focus (simp only [go_sem, *]; rfl)); intro pb hpb; (try simp only [Heap.set_none'] at hpb); (with_reducible apply runO_go); simp only [go_sem, *])
    | ((with_reducible apply runD_box); (focus (simp only [go_sem, *]; done)); intro pb hpb; (try simp only [Heap.set_none'] at hpb); (with_reducible apply runD_go); simp only [go_sem, *])
    | ((with_reducible apply runD_alloc); (focus (simp only [go_sem, *]; rfl)); intro pb hpb; (try simp only [Heap.set_none'] at hpb); (with_reducible apply runD_go); simp only [go_sem, *])
    | ((with_reducible apply runO_makeMap); intro pb hpb; (try simp only [Heap.set_none'] at hpb); (with_reducible apply runO_go); simp only [go_sem, *])
    | ((with_reducible apply runO_store); (focus (simp only [go_sem]; rfl)); (focus (simp only [go_sem, *]; rfl)); (focus (simp only [go_sem, *]; rfl)); (focus (simp only [go_sem, *]; done)); (focus (simp only [go_sem, *]; done)); (focus (simp only [go_sem, *]; done)); (with_reducible apply runO_go); simp only [go_sem, *, Heap.set_set])
    | ((with_reducible apply runD_store); (focus (simp only [go_sem]; rfl)); (focus (simp only [go_sem, *]; rfl)); (focus (simp only [go_sem, *]; rfl)); (focus (simp only [go_sem, *]; done)); (focus (simp only [go_sem, *]; done)); (focus (simp only [go_sem, *]; done)); (with_reducible apply runD_go); simp only [go_sem, *, Heap.set_set])
    | ((with_reducible apply runD_skipF); (focus rfl); (focus (simp only [go_sem, *]; rfl)); (focus rfl); (with_reducible apply runD_go); simp only [go_sem, *])
    | ((with_reducible apply runO_skipF); (focus (simp only [go_sem, *]; rfl)); (focus rfl); (with_reducible apply runO_go); simp only [go_sem, *])
    | ((first | (with_reducible apply runA_and) | (with_reducible apply runO_and) | (with_reducible apply runD_and)); (focus (first | assumption | (simp only [go_sem, *]; done) | (simp only [go_sem, *]; assumption))); (try simp only [go_sem, *]))
    | ((with_reducible apply runO_callF known30); simp only [go_sem, *]; refine (c1 _).use ?_; (with_reducible apply runO_go); simp only [go_sem, *])
    | ((with_reducible apply runO_callFG known30); (focus (simp only [go_sem, *]; rfl)); (focus (intro _; simp only [go_sem, *]; exact c1 _)); (with_reducible apply runO_go); simp only [go_sem, *])
    | ((with_reducible apply runD_callF known30); (focus (simp only [go_sem, *]; exact c1 _)); (with_reducible apply runD_go); simp only [go_sem, *])
    | ((with_reducible apply runD_callFG known30); (focus rfl); (focus (simp only [go_sem, *]; rfl)); (focus (intro _; simp only [go_sem, *]; exact c1 _)); (with_reducible apply runD_go); simp only [go_sem, *])
      | ((with_reducible apply runO_callF known34); simp only [go_sem, *]; refine (c2 _).use ?_; (with_reducible apply runO_go); simp only [go_sem, *])
    | ((with_reducible apply runO_callFG known34); (focus (simp only [go_sem, *]; rfl)); (focus (intro _; simp only [go_sem, *]; exact c2 _)); (with_reducible apply runO_go); simp only [go_sem, *])
    | ((with_reducible apply runD_callF known34); (focus (simp only [go_sem, *]; exact c2 _)); (with_reducible apply runD_go); simp only [go_sem, *])
    | ((with_reducible apply runD_callFG known34); (focus rfl); (focus (simp only [go_sem, *]; rfl)); (focus (intro _; simp only [go_sem, *]; exact c2 _)); (with_reducible apply runD_go); simp only [go_sem, *])
    | ((with_reducible apply run_ret Try.func11 res11 (H' := H)); (focus (simp only [go_sem, *]; rfl)); (focus trivial); (focus (repeat (first | assumption | exact Heap.sub_refl _ | refine Heap.sub_congr ?_ | refine Heap.sub_set ?_ (by assumption) | refine Heap.sub_set2 ?_ (by first | assumption | (simp only [*]; done) | (simp only [Heap.set_none', ne_eq, *, not_false_eq_true, and_self]; done))))))
    | ((with_reducible apply run_end Try.func11 res11 (H' := H)); (focus (simp only [go_sem, *]; rfl)); (focus trivial); (focus (repeat (first | assumption | exact Heap.sub_refl _ | refine Heap.sub_congr ?_ | refine Heap.sub_set ?_ (by assumption) | refine Heap.sub_set2 ?_ (by first | assumption | (simp only [*]; done) | (simp only [Heap.set_none', ne_eq, *, not_false_eq_true, and_self]; done)))))))
    clear c1 c2
    generalize pb = pc at *
    refine run_loop (fun m e H' => ∃ n : Nat, n ≤ l.length ∧ m = l.length - n ∧ e 0 = .list (evsC l) ∧ e 1 = .v (.int .i64 i) ∧ e 2 = .v (.int .i64 k) ∧ e 3 = .v (.int .i64 t) ∧ e 9 = .list (clksC (clkU l l.length)) ∧ e 10 = .list (clksC (clkU l l.length)) ∧ e 11 = .v (.pointer (some ⟨pc, 0, none⟩)) ∧
        e 32 = .v (.int .i64 (l.length : Int)) ∧ e 33 = .v (.int .i64 (n : Int)) ∧ H.set pc (.cells (iC (lastU l t n)) 46) = H') l.length
        ⟨0, Nat.zero_le _, rfl, (by simp only [go_sem, *]), (by simp only [go_sem, *]), (by simp only [go_sem, *]), (by simp only [go_sem, *]), (by simp only [go_sem, *]), (by simp only [go_sem, *]), (by simp only [go_sem, *]), (by simp only [go_sem, *]), by simp only [go_sem] <;> rfl, rfl⟩ ?_
    rintro m e H' ih ⟨n, hn, rfl, h0, h1, h2, h3, h9, h10, h11, h32, h33, rfl⟩
    have IH : Hid _ := ih
    clear ih
    have hlu := lastU_length l t n hn
    obtain ⟨u0, u1, u2, u3, hu⟩ := four_of hlu
    by_cases hlt : n < l.length
    · have hw : IntKind.i64.wrap ((n : Int) + 1) = ((n + 1 : Nat) : Int) := by rw [wrap_nat (by omega) (by omega)]; rfl
      obtain ⟨d0, d1, d2, d3, hck⟩ := four_of (okC_getD (l := l) hlt).1
      by_cases hr : (l.getD n default).th = t
      · have hlk : lastU l t (n + 1) = [d0, d1, d2, d3] := by rw [lastU, if_pos hr, hck]
        rw [hu]
        repeat' (first
    | (with_reducible apply run_seq)
    | (with_reducible apply run_block)
    | (with_reducible apply run_inBlock)
    | (with_reducible apply run_skip)
    | (with_reducible apply run_exit rfl)
    | ((with_reducible apply run_go); simp only [go_sem, *])
    | ((with_reducible apply run_drawGo (fun _ => false) mixed); (focus kernel_rfl); simp only [go_sem, *])
    | ((with_reducible apply run_cond_t); (focus (simp only [go_sem, *]; done)))
    | ((with_reducible apply run_cond_f); (focus (simp only [go_sem, *]; done)))
    | ((with_reducible apply run_cond); (focus (simp only [go_sem, *]; rfl)); (all_goals intro _))
    | ((with_reducible apply runO_box); (focus (simp only [go_sem, *]; done)); intro pb hpb; (try simp only [Heap.set_none'] at hpb); (with_reducible apply runO_go); simp only [go_sem, *])
    | ((with_reducible apply runO_alloc); (focus (simp only [go_sem, *]; rfl)); intro pb hpb; (try simp only [Heap.set_none'] at hpb); (with_reducible apply runO_go); simp only [go_sem, *])
    | ((with_reducible apply runD_box); (focus (simp only [go_sem, *]; done)); intro pb hpb; (try simp only [Heap.set_none'] at hpb); (with_reducible apply runD_go); simp only [go_sem, *])
    | ((with_reducible apply runD_alloc); (focus (simp only [go_sem, *]; rfl)); intro pb hpb; (try simp only [Heap.set_none'] at hpb); (with_reducible apply runD_go); simp only [go_sem, *])
    | ((with_reducible apply runO_makeMap); intro pb hpb; (try simp only [Heap.set_none'] at hpb); (with_reducible apply runO_go); simp only [go_sem, *])
    | ((with_reducible apply runO_store); (focus (simp only [go_sem]; rfl)); (focus (simp only [go_sem, *]; rfl)); (focus (simp only [go_sem, *]; rfl)); (focus (simp only [go_sem, *]; done)); (focus (simp only [go_sem, *]; done)); (focus (simp only [go_sem, *]; done)); (with_reducible apply runO_go); simp only [go_sem, *, Heap.set_set])
    | ((with_reducible apply runD_store); (focus (simp only [go_sem]; rfl)); (focus (simp only [go_sem, *]; rfl)); (focus (simp only [go_sem, *]; rfl)); (focus (simp only [go_sem, *]; done)); (focus (simp only [go_sem, *]; done)); (focus (simp only [go_sem, *]; done)); (with_reducible apply runD_go); simp only [go_sem, *, Heap.set_set])
    | ((with_reducible apply runD_skipF); (focus rfl); (focus (simp only [go_sem, *]; rfl)); (focus rfl); (with_reducible apply runD_go); simp only [go_sem, *])
    | ((with_reducible apply runO_skipF); (focus (simp only [go_sem, *]; rfl)); (focus rfl); (with_reducible apply runO_go); simp only [go_sem, *])
    | ((first | (with_reducible apply runA_and) | (with_reducible apply runO_and) | (with_reducible apply runD_and)); (focus (first | assumption | (simp only [go_sem, *]; done) | (simp only [go_sem, *]; assumption))); (try simp only [go_sem, *]))
    | ((with_reducible apply run_ret Try.func11 res11 (H' := H)); (focus (simp only [go_sem, *]; rfl)); (focus trivial); (focus (repeat (first | assumption | exact Heap.sub_refl _ | refine Heap.sub_congr ?_ | refine Heap.sub_set ?_ (by assumption) | refine Heap.sub_set2 ?_ (by first | assumption | (simp only [*]; done) | (simp only [Heap.set_none', ne_eq, *, not_false_eq_true, and_self]; done))))))
    | ((with_reducible apply run_end Try.func11 res11 (H' := H)); (focus (simp only [go_sem, *]; rfl)); (focus trivial); (focus (repeat (first | assumption | exact Heap.sub_refl _ | refine Heap.sub_congr ?_ | refine Heap.sub_set ?_ (by assumption) | refine Heap.sub_set2 ?_ (by first | assumption | (simp only [*]; done) | (simp only [Heap.set_none', ne_eq, *, not_false_eq_true, and_self]; done)))))))
        refine IH.out (l.length - (n + 1)) _ _ (by omega) ⟨n + 1, by omega, rfl, (by simp only [go_sem, *]), (by simp only [go_sem, *]), (by simp only [go_sem, *]), (by simp only [go_sem, *]), (by simp only [go_sem, *]), (by simp only [go_sem, *]), (by simp only [go_sem, *]), (by simp only [go_sem, *]), (by simp only [go_sem, *]), by rw [hlk]; simp only [go_sem]⟩
      · have hlk : lastU l t (n + 1) = lastU l t n := by rw [lastU, if_neg hr]
        rw [hu]
        repeat' (first
    | (with_reducible apply run_seq)
    | (with_reducible apply run_block)
    | (with_reducible apply run_inBlock)
    | (with_reducible apply run_skip)
    | (with_reducible apply run_exit rfl)
    | ((with_reducible apply run_go); simp only [go_sem, *])
    | ((with_reducible apply run_drawGo (fun _ => false) mixed); (focus kernel_rfl); simp only [go_sem, *])
    | ((with_reducible apply run_cond_t); (focus (simp only [go_sem, *]; done)))
    | ((with_reducible apply run_cond_f); (focus (simp only [go_sem, *]; done)))
    | ((with_reducible apply run_cond); (focus (simp only [go_sem, *]; rfl)); (all_goals intro _))
    | ((with_reducible apply runO_box); (focus (simp only [go_sem, *]; done)); intro pb hpb; (try simp only [Heap.set_none'] at hpb); (with_reducible apply runO_go); simp only [go_sem, *])
    | ((with_reducible apply runO_alloc); (focus (simp only [go_sem, *]; rfl)); intro pb hpb; (try simp only [Heap.set_none'] at hpb); (with_reducible apply runO_go); simp only [go_sem, *])
    | ((with_reducible apply runD_box); (focus (simp only [go_sem, *]; done)); intro pb hpb; (try simp only [Heap.set_none'] at hpb); (with_reducible apply runD_go); simp only [go_sem, *])
    | ((with_reducible apply runD_alloc); (focus (simp only [go_sem, *]; rfl)); intro pb hpb; (try simp only [Heap.set_none'] at hpb); (with_reducible apply runD_go); simp only [go_sem, *])
    | ((with_reducible apply runO_makeMap); intro pb hpb; (try simp only [Heap.set_none'] at hpb); (with_reducible apply runO_go); simp only [go_sem, *])
    | ((with_reducible apply runO_store); (focus (simp only [go_sem]; rfl)); (focus (simp only [go_sem, *]; rfl)); (focus (simp only [go_sem, *]; rfl)); (focus (simp only [go_sem, *]; done)); (focus (simp only [go_sem, *]; done)); (focus (simp only [go_sem, *]; done)); (with_reducible apply runO_go); simp only [go_sem, *, Heap.set_set])
    | ((with_reducible apply runD_store); (focus (simp only [go_sem]; rfl)); (focus (simp only [go_sem, *]; rfl)); (focus (simp only [go_sem, *]; rfl)); (focus (simp only [go_sem, *]; done)); (focus (simp only [go_sem, *]; done)); (focus (simp only [go_sem, *]; done)); (with_reducible apply runD_go); simp only [go_sem, *, Heap.set_set])
    | ((with_reducible apply runD_skipF); (focus rfl); (focus (simp only [go_sem, *]; rfl)); (focus rfl); (with_reducible apply runD_go); simp only [go_sem, *])
    | ((with_reducible apply runO_skipF); (focus (simp only [go_sem, *]; rfl)); (focus rfl); (with_reducible apply runO_go); simp only [go_sem, *])
    | ((first | (with_reducible apply runA_and) | (with_reducible apply runO_and) | (with_reducible apply runD_and)); (focus (first | assumption | (simp only [go_sem, *]; done) | (simp only [go_sem, *]; assumption))); (try simp only [go_sem, *]))
    | ((with_reducible apply run_ret Try.func11 res11 (H' := H)); (focus (simp only [go_sem, *]; rfl)); (focus trivial); (focus (repeat (first | assumption | exact Heap.sub_refl _ | refine Heap.sub_congr ?_ | refine Heap.sub_set ?_ (by assumption) | refine Heap.sub_set2 ?_ (by first | assumption | (simp only [*]; done) | (simp only [Heap.set_none', ne_eq, *, not_false_eq_true, and_self]; done))))))
    | ((with_reducible apply run_end Try.func11 res11 (H' := H)); (focus (simp only [go_sem, *]; rfl)); (focus trivial); (focus (repeat (first | assumption | exact Heap.sub_refl _ | refine Heap.sub_congr ?_ | refine Heap.sub_set ?_ (by assumption) | refine Heap.sub_set2 ?_ (by first | assumption | (simp only [*]; done) | (simp only [Heap.set_none', ne_eq, *, not_false_eq_true, and_self]; done)))))))
        refine IH.out (l.length - (n + 1)) _ _ (by omega) ⟨n + 1, by omega, rfl, (by simp only [go_sem, *]), (by simp only [go_sem, *]), (by simp only [go_sem, *]), (by simp only [go_sem, *]), (by simp only [go_sem, *]), (by simp only [go_sem, *]), (by simp only [go_sem, *]), (by simp only [go_sem, *]), (by simp only [go_sem, *]), by rw [hlk, hu]; simp only [go_sem]⟩
    · obtain rfl : n = l.length := by omega
      rw [hu] at c7 ⊢
      repeat' (first
    | (with_reducible apply run_seq)
    | (with_reducible apply run_block)
    | (with_reducible apply run_inBlock)
    | (with_reducible apply run_skip)
    | (with_reducible apply run_exit rfl)
    | ((with_reducible apply run_go); simp only [go_sem, *])
    | ((with_reducible apply run_drawGo (fun _ => false) mixed); (focus kernel_rfl); simp only [go_sem, *])
    | ((with_reducible apply run_cond_t); (focus (simp only [go_sem, *]; done)))
    | ((with_reducible apply run_cond_f); (focus (simp only [go_sem, *]; done)))
    | ((with_reducible apply run_cond); (focus (simp only [go_sem, *]; rfl)); (all_goals intro _))
    | ((with_reducible apply runO_box); (focus (simp only [go_sem, *]; done)); intro pb hpb; (try simp only [Heap.set_none'] at hpb); (with_reducible apply runO_go); simp only [go_sem, *])
    | ((with_reducible apply runO_alloc); (focus (simp only [go_sem, *]; rfl)); intro pb hpb; (try simp only [Heap.set_none'] at hpb); (with_reducible apply runO_go); simp only [go_sem, *])
    | ((with_reducible apply runD_box); (focus (simp only [go_sem, *]; done)); intro pb hpb; (try simp only [Heap.set_none'] at hpb); (with_reducible apply runD_go); simp only [go_sem, *])
    | ((with_reducible apply runD_alloc); (focus (simp only [go_sem, *]; rfl)); intro pb hpb; (try simp only [Heap.set_none'] at hpb); (with_reducible apply runD_go); simp only [go_sem, *])
    | ((with_reducible apply runO_makeMap); intro pb hpb; (try simp only [Heap.set_none'] at hpb); (with_reducible apply runO_go); simp only [go_sem, *])
    | ((with_reducible apply runO_store); (focus (simp only [go_sem]; rfl)); (focus (simp only [go_sem, *]; rfl)); (focus (simp only [go_sem, *]; rfl)); (focus (simp only [go_sem, *]; done)); (focus (simp only [go_sem, *]; done)); (focus (simp only [go_sem, *]; done)); (with_reducible apply runO_go); simp only [go_sem, *, Heap.set_set])
    | ((with_reducible apply runD_store); (focus (simp only [go_sem]; rfl)); (focus (simp only [go_sem, *]; rfl)); (focus (simp only [go_sem, *]; rfl)); (focus (simp only [go_sem, *]; done)); (focus (simp only [go_sem, *]; done)); (focus (simp only [go_sem, *]; done)); (with_reducible apply runD_go); simp only [go_sem, *, Heap.set_set])
    | ((with_reducible apply runD_skipF); (focus rfl); (focus (simp only [go_sem, *]; rfl)); (focus rfl); (with_reducible apply runD_go); simp only [go_sem, *])
    | ((with_reducible apply runO_skipF); (focus (simp only [go_sem, *]; rfl)); (focus rfl); (with_reducible apply runO_go); simp only [go_sem, *])
    | ((first | (with_reducible apply runA_and) | (with_reducible apply runO_and) | (with_reducible apply runD_and)); (focus (first | assumption | (simp only [go_sem, *]; done) | (simp only [go_sem, *]; assumption))); (try simp only [go_sem, *]))
    | ((with_reducible apply runO_callF known31); simp only [go_sem, *]; refine (c3 _).use ?_; (with_reducible apply runO_go); simp only [go_sem, *])
    | ((with_reducible apply runO_callFG known31); (focus (simp only [go_sem, *]; rfl)); (focus (intro _; simp only [go_sem, *]; exact c3 _)); (with_reducible apply runO_go); simp only [go_sem, *])
    | ((with_reducible apply runD_callF known31); (focus (simp only [go_sem, *]; exact c3 _)); (with_reducible apply runD_go); simp only [go_sem, *])
    | ((with_reducible apply runD_callFG known31); (focus rfl); (focus (simp only [go_sem, *]; rfl)); (focus (intro _; simp only [go_sem, *]; exact c3 _)); (with_reducible apply runD_go); simp only [go_sem, *])
        | ((with_reducible apply runO_callF known35); simp only [go_sem, *]; refine (c4 _).use ?_; (with_reducible apply runO_go); simp only [go_sem, *])
    | ((with_reducible apply runO_callFG known35); (focus (simp only [go_sem, *]; rfl)); (focus (intro _; simp only [go_sem, *]; exact c4 _)); (with_reducible apply runO_go); simp only [go_sem, *])
    | ((with_reducible apply runD_callF known35); (focus (simp only [go_sem, *]; exact c4 _)); (with_reducible apply runD_go); simp only [go_sem, *])
    | ((with_reducible apply runD_callFG known35); (focus rfl); (focus (simp only [go_sem, *]; rfl)); (focus (intro _; simp only [go_sem, *]; exact c4 _)); (with_reducible apply runD_go); simp only [go_sem, *])
        | ((with_reducible apply runO_callF known29); simp only [go_sem, *]; refine (c5 _).use ?_; (with_reducible apply runO_go); simp only [go_sem, *])
    | ((with_reducible apply runO_callFG known29); (focus (simp only [go_sem, *]; rfl)); (focus (intro _; simp only [go_sem, *]; exact c5 _)); (with_reducible apply runO_go); simp only [go_sem, *])
    | ((with_reducible apply runD_callF known29); (focus (simp only [go_sem, *]; exact c5 _)); (with_reducible apply runD_go); simp only [go_sem, *])
    | ((with_reducible apply runD_callFG known29); (focus rfl); (focus (simp only [go_sem, *]; rfl)); (focus (intro _; simp only [go_sem, *]; exact c5 _)); (with_reducible apply runD_go); simp only [go_sem, *])
        | ((with_reducible apply runO_callF known36); simp only [go_sem, *]; refine (c6 _).use ?_; (with_reducible apply runO_go); simp only [go_sem, *])
    | ((with_reducible apply runO_callFG known36); (focus (simp only [go_sem, *]; rfl)); (focus (intro _; simp only [go_sem, *]; exact c6 _)); (with_reducible apply runO_go); simp only [go_sem, *])
    | ((with_reducible apply runD_callF known36); (focus (simp only [go_sem, *]; exact c6 _)); (with_reducible apply runD_go); simp only [go_sem, *])
    | ((with_reducible apply runD_callFG known36); (focus rfl); (focus (simp only [go_sem, *]; rfl)); (focus (intro _; simp only [go_sem, *]; exact c6 _)); (with_reducible apply runD_go); simp only [go_sem, *])
        | ((with_reducible apply runO_callF known32); simp only [go_sem, *]; refine (c7 _).use ?_; (with_reducible apply runO_go); simp only [go_sem, *])
    | ((with_reducible apply runO_callFG known32); (focus (simp only [go_sem, *]; rfl)); (focus (intro _; simp only [go_sem, *]; exact c7 _)); (with_reducible apply runO_go); simp only [go_sem, *])
    | ((with_reducible apply runD_callF known32); (focus (simp only [go_sem, *]; exact c7 _)); (with_reducible apply runD_go); simp only [go_sem, *])
    | ((with_reducible apply runD_callFG known32); (focus rfl); (focus (simp only [go_sem, *]; rfl)); (focus (intro _; simp only [go_sem, *]; exact c7 _)); (with_reducible apply runD_go); simp only [go_sem, *])
    | ((with_reducible apply run_ret Try.func11 res11 (H' := H)); (focus (simp only [go_sem, *]; rfl)); (focus trivial); (focus (repeat (first | assumption | exact Heap.sub_refl _ | refine Heap.sub_congr ?_ | refine Heap.sub_set ?_ (by assumption) | refine Heap.sub_set2 ?_ (by first | assumption | (simp only [*]; done) | (simp only [Heap.set_none', ne_eq, *, not_false_eq_true, and_self]; done))))))
    | ((with_reducible apply run_end Try.func11 res11 (H' := H)); (focus (simp only [go_sem, *]; rfl)); (focus trivial); (focus (repeat (first | assumption | exact Heap.sub_refl _ | refine Heap.sub_congr ?_ | refine Heap.sub_set ?_ (by assumption) | refine Heap.sub_set2 ?_ (by first | assumption | (simp only [*]; done) | (simp only [Heap.set_none', ne_eq, *, not_false_eq_true, and_self]; done)))))))
      rfl
  · have hc : clksE l = [] := by rw [clksE, if_neg hall]
    have hlast : lastE l t = [0, 0, 0, 0] := by rw [lastE, if_neg hall]
    rw [hc] at c1 c2
    rw [hlast] at c7
    simp only [clksC, List.map_nil] at c1 c2
    repeat' (first
    | (with_reducible apply run_seq)
    | (with_reducible apply run_block)
    | (with_reducible apply run_inBlock)
    | (with_reducible apply run_skip)
    | (with_reducible apply run_exit rfl)
    | ((with_reducible apply run_go); simp only [go_sem, *])
    | ((with_reducible apply run_drawGo (fun _ => false) mixed); (focus kernel_rfl); simp only [go_sem, *])
    | ((with_reducible apply run_cond_t); (focus (simp only [go_sem, *]; done)))
    | ((with_reducible apply run_cond_f); (focus (simp only [go_sem, *]; done)))
    | ((with_reducible apply run_cond); (focus (simp only [go_sem, *]; rfl)); (all_goals intro _))
    | ((with_reducible apply runO_box); (focus (simp only [go_sem, *]; done)); intro pb hpb; (try simp only [Heap.set_none'] at hpb); (with_reducible apply runO_go); simp only [go_sem, *])
    | ((with_reducible apply runO_alloc); (focus (simp only [go_sem, *]; rfl)); intro pb hpb; (try simp only [Heap.set_none'] at hpb); (with_reducible apply runO_go); simp only [go_sem, *])
    | ((with_reducible apply runD_box); (focus (simp only [go_sem, *]; done)); intro pb hpb; (try simp only [Heap.set_none'] at hpb); (with_reducible apply runD_go); simp only [go_sem, *])
    | ((with_reducible apply runD_alloc); (focus (simp only [go_sem, *]; rfl)); intro pb hpb; (try simp only [Heap.set_none'] at hpb); (with_reducible apply runD_go); simp only [go_sem, *])
    | ((with_reducible apply runO_makeMap); intro pb hpb; (try simp only [Heap.set_none'] at hpb); (with_reducible apply runO_go); simp only [go_sem, *])
    | ((with_reducible apply runO_store); (focus (simp only [go_sem]; rfl)); (focus (simp only [go_sem, *]; rfl)); (focus (simp only [go_sem, *]; rfl)); (focus (simp only [go_sem, *]; done)); (focus (simp only [go_sem, *]; done)); (focus (simp only [go_sem, *]; done)); (with_reducible apply runO_go); simp only [go_sem, *, Heap.set_set])
    | ((with_reducible apply runD_store); (focus (simp only [go_sem]; rfl)); (focus (simp only [go_sem, *]; rfl)); (focus (simp only [go_sem, *]; rfl)); (focus (simp only [go_sem, *]; done)); (focus (simp only [go_sem, *]; done)); (focus (simp only [go_sem, *]; done)); (with_reducible apply runD_go); simp only [go_sem, *, Heap.set_set])
    | ((with_reducible apply runD_skipF); (focus rfl); (focus (simp only [go_sem, *]; rfl)); (focus rfl); (with_reducible apply runD_go); simp only [go_sem, *])
    | ((with_reducible apply runO_skipF); (focus (simp only [go_sem, *]; rfl)); (focus rfl); (with_reducible apply runO_go); simp only [go_sem, *])
    | ((first | (with_reducible apply runA_and) | (with_reducible apply runO_and) | (with_reducible apply runD_and)); (focus (first | assumption | (simp only [go_sem, *]; done) | (simp only [go_sem, *]; assumption))); (try simp only [go_sem, *]))
    | ((with_reducible apply runO_callF known30); simp only [go_sem, *]; refine (c1 _).use ?_; (with_reducible apply runO_go); simp only [go_sem, *])
    | ((with_reducible apply runO_callFG known30); (focus (simp only [go_sem, *]; rfl)); (focus (intro _; simp only [go_sem, *]; exact c1 _)); (with_reducible apply runO_go); simp only [go_sem, *])
    | ((with_reducible apply runD_callF known30); (focus (simp only [go_sem, *]; exact c1 _)); (with_reducible apply runD_go); simp only [go_sem, *])
    | ((with_reducible apply runD_callFG known30); (focus rfl); (focus (simp only [go_sem, *]; rfl)); (focus (intro _; simp only [go_sem, *]; exact c1 _)); (with_reducible apply runD_go); simp only [go_sem, *])
      | ((with_reducible apply runO_callF known34); simp only [go_sem, *]; refine (c2 _).use ?_; (with_reducible apply runO_go); simp only [go_sem, *])
    | ((with_reducible apply runO_callFG known34); (focus (simp only [go_sem, *]; rfl)); (focus (intro _; simp only [go_sem, *]; exact c2 _)); (with_reducible apply runO_go); simp only [go_sem, *])
    | ((with_reducible apply runD_callF known34); (focus (simp only [go_sem, *]; exact c2 _)); (with_reducible apply runD_go); simp only [go_sem, *])
    | ((with_reducible apply runD_callFG known34); (focus rfl); (focus (simp only [go_sem, *]; rfl)); (focus (intro _; simp only [go_sem, *]; exact c2 _)); (with_reducible apply runD_go); simp only [go_sem, *])
    | ((with_reducible apply run_ret Try.func11 res11 (H' := H)); (focus (simp only [go_sem, *]; rfl)); (focus trivial); (focus (repeat (first | assumption | exact Heap.sub_refl _ | refine Heap.sub_congr ?_ | refine Heap.sub_set ?_ (by assumption) | refine Heap.sub_set2 ?_ (by first | assumption | (simp only [*]; done) | (simp only [Heap.set_none', ne_eq, *, not_false_eq_true, and_self]; done))))))
    | ((with_reducible apply run_end Try.func11 res11 (H' := H)); (focus (simp only [go_sem, *]; rfl)); (focus trivial); (focus (repeat (first | assumption | exact Heap.sub_refl _ | refine Heap.sub_congr ?_ | refine Heap.sub_set ?_ (by assumption) | refine Heap.sub_set2 ?_ (by first | assumption | (simp only [*]; done) | (simp only [Heap.set_none', ne_eq, *, not_false_eq_true, and_self]; done)))))))
    refine run_loop1 ?_
    repeat' (first
    | (with_reducible apply run_seq)
    | (with_reducible apply run_block)
    | (with_reducible apply run_inBlock)
    | (with_reducible apply run_skip)
    | (with_reducible apply run_exit rfl)
    | ((with_reducible apply run_go); simp only [go_sem, *])
    | ((with_reducible apply run_drawGo (fun _ => false) mixed); (focus kernel_rfl); simp only [go_sem, *])
    | ((with_reducible apply run_cond_t); (focus (simp only [go_sem, *]; done)))
    | ((with_reducible apply run_cond_f); (focus (simp only [go_sem, *]; done)))
    | ((with_reducible apply run_cond); (focus (simp only [go_sem, *]; rfl)); (all_goals intro _))
    | ((with_reducible apply runO_box); (focus (simp only [go_sem, *]; done)); intro pb hpb; (try simp only [Heap.set_none'] at hpb); (with_reducible apply runO_go); simp only [go_sem, *])
    | ((with_reducible apply runO_alloc); (focus (simp only [go_sem, *]; rfl)); intro pb hpb; (try simp only [Heap.set_none'] at hpb); (with_reducible apply runO_go); simp only [go_sem, *])
    | ((with_reducible apply runD_box); (focus (simp only [go_sem, *]; done)); intro pb hpb; (try simp only [Heap.set_none'] at hpb); (with_reducible apply runD_go); simp only [go_sem, *])
    | ((with_reducible apply runD_alloc); (focus (simp only [go_sem, *]; rfl)); intro pb hpb; (try simp only [Heap.set_none'] at hpb); (with_reducible apply runD_go); simp only [go_sem, *])
    | ((with_reducible apply runO_makeMap); intro pb hpb; (try simp only [Heap.set_none'] at hpb); (with_reducible apply runO_go); simp only [go_sem, *])
    | ((with_reducible apply runO_store); (focus (simp only [go_sem]; rfl)); (focus (simp only [go_sem, *]; rfl)); (focus (simp only [go_sem, *]; rfl)); (focus (simp only [go_sem, *]; done)); (focus (simp only [go_sem, *]; done)); (focus (simp only [go_sem, *]; done)); (with_reducible apply runO_go); simp only [go_sem, *, Heap.set_set])
    | ((with_reducible apply runD_store); (focus (simp only [go_sem]; rfl)); (focus (simp only [go_sem, *]; rfl)); (focus (simp only [go_sem, *]; rfl)); (focus (simp only [go_sem, *]; done)); (focus (simp only [go_sem, *]; done)); (focus (simp only [go_sem, *]; done)); (with_reducible apply runD_go); simp only [go_sem, *, Heap.set_set])
    | ((with_reducible apply runD_skipF); (focus rfl); (focus (simp only [go_sem, *]; rfl)); (focus rfl); (with_reducible apply runD_go); simp only [go_sem, *])
    | ((with_reducible apply runO_skipF); (focus (simp only [go_sem, *]; rfl)); (focus rfl); (with_reducible apply runO_go); simp only [go_sem, *])
    | ((first | (with_reducible apply runA_and) | (with_reducible apply runO_and) | (with_reducible apply runD_and)); (focus (first | assumption | (simp only [go_sem, *]; done) | (simp only [go_sem, *]; assumption))); (try simp only [go_sem, *]))
    | ((with_reducible apply runO_callF known31); simp only [go_sem, *]; refine (c3 _).use ?_; (with_reducible apply runO_go); simp only [go_sem, *])
    | ((with_reducible apply runO_callFG known31); (focus (simp only [go_sem, *]; rfl)); (focus (intro _; simp only [go_sem, *]; exact c3 _)); (with_reducible apply runO_go); simp only [go_sem, *])
    | ((with_reducible apply runD_callF known31); (focus (simp only [go_sem, *]; exact c3 _)); (with_reducible apply runD_go); simp only [go_sem, *])
    | ((with_reducible apply runD_callFG known31); (focus rfl); (focus (simp only [go_sem, *]; rfl)); (focus (intro _; simp only [go_sem, *]; exact c3 _)); (with_reducible apply runD_go); simp only [go_sem, *])
      | ((with_reducible apply runO_callF known35); simp only [go_sem, *]; refine (c4 _).use ?_; (with_reducible apply runO_go); simp only [go_sem, *])
    | ((with_reducible apply runO_callFG known35); (focus (simp only [go_sem, *]; rfl)); (focus (intro _; simp only [go_sem, *]; exact c4 _)); (with_reducible apply runO_go); simp only [go_sem, *])
    | ((with_reducible apply runD_callF known35); (focus (simp only [go_sem, *]; exact c4 _)); (with_reducible apply runD_go); simp only [go_sem, *])
    | ((with_reducible apply runD_callFG known35); (focus rfl); (focus (simp only [go_sem, *]; rfl)); (focus (intro _; simp only [go_sem, *]; exact c4 _)); (with_reducible apply runD_go); simp only [go_sem, *])
      | ((with_reducible apply runO_callF known29); simp only [go_sem, *]; refine (c5 _).use ?_; (with_reducible apply runO_go); simp only [go_sem, *])
    | ((with_reducible apply runO_callFG known29); (focus (simp only [go_sem, *]; rfl)); (focus (intro _; simp only [go_sem, *]; exact c5 _)); (with_reducible apply runO_go); simp only [go_sem, *])
    | ((with_reducible apply runD_callF known29); (focus (simp only [go_sem, *]; exact c5 _)); (with_reducible apply runD_go); simp only [go_sem, *])
    | ((with_reducible apply runD_callFG known29); (focus rfl); (focus (simp only [go_sem, *]; rfl)); (focus (intro _; simp only [go_sem, *]; exact c5 _)); (with_reducible apply runD_go); simp only [go_sem, *])
      | ((with_reducible apply runO_callF known36); simp only [go_sem, *]; refine (c6 _).use ?_; (with_reducible apply runO_go); simp only [go_sem, *])
    | ((with_reducible apply runO_callFG known36); (focus (simp only [go_sem, *]; rfl)); (focus (intro _; simp only [go_sem, *]; exact c6 _)); (with_reducible apply runO_go); simp only [go_sem, *])
    | ((with_reducible apply runD_callF known36); (focus (simp only [go_sem, *]; exact c6 _)); (with_reducible apply runD_go); simp only [go_sem, *])
    | ((with_reducible apply runD_callFG known36); (focus rfl); (focus (simp only [go_sem, *]; rfl)); (focus (intro _; simp only [go_sem, *]; exact c6 _)); (with_reducible apply runD_go); simp only [go_sem, *])
      | ((with_reducible apply runO_callF known32); simp only [go_sem, *]; refine (c7 _).use ?_; (with_reducible apply runO_go); simp only [go_sem, *])
    | ((with_reducible apply runO_callFG known32); (focus (simp only [go_sem, *]; rfl)); (focus (intro _; simp only [go_sem, *]; exact c7 _)); (with_reducible apply runO_go); simp only [go_sem, *])
    | ((with_reducible apply runD_callF known32); (focus (simp only [go_sem, *]; exact c7 _)); (with_reducible apply runD_go); simp only [go_sem, *])
    | ((with_reducible apply runD_callFG known32); (focus rfl); (focus (simp only [go_sem, *]; rfl)); (focus (intro _; simp only [go_sem, *]; exact c7 _)); (with_reducible apply runD_go); simp only [go_sem, *])
    | ((with_reducible apply run_ret Try.func11 res11 (H' := H)); (focus (simp only [go_sem, *]; rfl)); (focus trivial); (focus (repeat (first | assumption | exact Heap.sub_refl _ | refine Heap.sub_congr ?_ | refine Heap.sub_set ?_ (by assumption) | refine Heap.sub_set2 ?_ (by first | assumption | (simp only [*]; done) | (simp only [Heap.set_none', ne_eq, *, not_false_eq_true, and_self]; done))))))
    | ((with_reducible apply run_end Try.func11 res11 (H' := H)); (focus (simp only [go_sem, *]; rfl)); (focus trivial); (focus (repeat (first | assumption | exact Heap.sub_refl _ | refine Heap.sub_congr ?_ | refine Heap.sub_set ?_ (by assumption) | refine Heap.sub_set2 ?_ (by first | assumption | (simp only [*]; done) | (simp only [Heap.set_none', ne_eq, *, not_false_eq_true, and_self]; done)))))))
    rfl

theorem mod_ex (i : Int) {n : Nat} (hn : 0 < n) (hn2 : n ≤ 1000000) : ∃ j : Nat, j < n ∧ (IntKind.u64.wrap i).tmod (n : Int) = (j : Int) ∧ IntKind.i64.wrap (j : Int) = (j : Int) := by
  have h0 : 0 ≤ IntKind.u64.wrap i := by rw [IntKind.wrap_u64]; omega
  obtain ⟨m, hm⟩ : ∃ m : Nat, IntKind.u64.wrap i = (m : Int) := ⟨(IntKind.u64.wrap i).toNat, by omega⟩
  refine ⟨m % n, Nat.mod_lt _ hn, by rw [hm, tmodN], ?_⟩
  have := Nat.mod_lt m hn
  exact wrap_nat (by omega) (by omega)
theorem u64_nat {n : Nat} (h : n ≤ 1000000) : IntKind.u64.wrap (n : Int) = (n : Int) := by rw [IntKind.wrap_u64]; omega

theorem order_law {l : List Ev} (h : AllR l) {i j k : Nat} (hi : i < l.length) (hj : j < l.length) (hk : k < l.length) :
    (beforeN l (i : Int) (j : Int) && beforeN l (j : Int) (k : Int) && !beforeN l (i : Int) (k : Int) || !decide (i = j) && beforeN l (i : Int) (j : Int) && beforeN l (j : Int) (i : Int)) = false := by
  rw [before_hb h hi hj, before_hb h hj hk, before_hb h hi hk, before_hb h hj hi]
  have h1 : hbf l i j = true → hbf l j k = true → hbf l i k = true := by
    unfold hbf
    simp only [Bool.and_eq_true, decide_eq_true_eq]
    rintro ⟨a1, a2⟩ ⟨b1, b2⟩
    exact ⟨by omega, by have := ck_down h k hk j b1 b2 (thN l i); omega⟩
  have h2 : hbf l i j = true → hbf l j i = true → i = j := by
    unfold hbf
    simp only [Bool.and_eq_true, decide_eq_true_eq]
    rintro ⟨a1, a2⟩ ⟨b1, b2⟩
    omega
  cases e1 : hbf l i j <;> cases e2 : hbf l j k <;> cases e3 : hbf l i k <;> cases e4 : hbf l j i <;> simp_all
theorem order_dep {l : List Ev} (h : AllR l) {i j : Nat} (hi : i < l.length) (hj : j < l.length) (hd : depR (l.getD i default) (l.getD j default) = true) :
    beforeN l (imin (i : Int) (j : Int)) (imax (i : Int) (j : Int)) = true := by
  have key : ∀ i j, i < l.length → j < l.length → i ≤ j → depE (l.getD i default) (l.getD j default) = true → beforeN l (i : Int) (j : Int) = true := by
    intro i j hi hj hij hd
    rw [before_hb h hi hj]
    unfold hbf
    rw [Bool.and_eq_true, decide_eq_true_eq, decide_eq_true_eq]
    refine ⟨hij, ?_⟩
    rw [← ck_own h i hi]
    rcases Nat.lt_or_ge i j with h1 | h1
    · exact ck_dep h hj h1 hd _
    · obtain rfl : i = j := by omega
      exact Int.le_refl _
  rw [imin_eq, imax_eq]
  rcases Nat.le_total i j with h1 | h1
  · rw [show min (i : Int) (j : Int) = (i : Int) by omega, show max (i : Int) (j : Int) = (j : Int) by omega]
    exact key i j hi hj h1 (by rw [dep_eq]; exact hd)
  · rw [show min (i : Int) (j : Int) = (j : Int) by omega, show max (i : Int) (j : Int) = (i : Int) by omega]
    exact key j i hj hi h1 (by rw [depE_comm, dep_eq]; exact hd)

set_option maxHeartbeats 4000000 in
theorem clockOrder_call (W : World) (H : Heap) (l : List Ev) (i j k : Int) :
    CallA Try.prog W 8 [.list (evsC l), .v (.int .i64 i), .v (.int .i64 j), .v (.int .i64 k)] H fun r H' => r = .v (.bool true) := by
  refine call_in Try.func8 rfl Try.ntmps8 (by simp) ?_
  have ca := fun H => awake4_call W H
  have fin : ∀ (p q r : Bool), CallA Try.prog W 26 [] H fun r H' => r = .v (.bool true) ∧ H' = H := fun _ _ _ => ca H
  clear fin
  by_cases hl : l.length ≤ 40 ∧ 0 < l.length ∧ l.all rightR = true
  · obtain ⟨hl, hpos, hall⟩ := hl
    have c0 := fun H => rows_call W H l (by omega)
    simp only [hall] at c0
    have hn40 : ¬ (40 : Int) < (l.length : Int) := by omega
    have hn0 : ¬ (l.length : Int) = 0 := by omega
    obtain ⟨i', hi', mi, mi2⟩ := mod_ex i (n := l.length) (by omega) (by omega)
    obtain ⟨j', hj', mj, mj2⟩ := mod_ex j (n := l.length) (by omega) (by omega)
    obtain ⟨k', hk', mk, mk2⟩ := mod_ex k (n := l.length) (by omega) (by omega)
    have hu := u64_nat (n := l.length) (by omega)
    have d1 := fun H => before_call W H l (i' : Int) (j' : Int) (by omega)
    have d2 := fun H => before_call W H l (j' : Int) (k' : Int) (by omega)
    have d3 := fun H => before_call W H l (i' : Int) (k' : Int) (by omega)
    have d4 := fun H => before_call W H l (j' : Int) (i' : Int) (by omega)
    have d5 := fun H => before_call W H l (imin (i' : Int) (j' : Int)) (imax (i' : Int) (j' : Int)) (by omega)
    have law1 := order_law hall hi' hj' hk'
    have law2 := order_dep hall hi' hj'
    have HL2 : Hid _ := law2
    clear law2
    have HA : Hid _ := hall
    clear hall hpos
    repeat' (first
    | (with_reducible apply run_seq)
    | (with_reducible apply run_block)
    | (with_reducible apply run_inBlock)
    | (with_reducible apply run_skip)
    | (with_reducible apply run_exit rfl)
    | ((with_reducible apply run_go); simp only [go_sem, *])
    | ((with_reducible apply run_drawGo (fun _ => false) mixed); (focus kernel_rfl); simp only [go_sem, *])
    | ((with_reducible apply run_cond_t); (focus (simp only [go_sem, *]; done)))
    | ((with_reducible apply run_cond_f); (focus (simp only [go_sem, *]; done)))
    | ((with_reducible apply run_cond); (focus (simp only [go_sem, *]; rfl)); (all_goals intro _))
    | ((with_reducible apply runO_box); (focus (simp only [go_sem, *]; done)); intro pb hpb; (try simp only [Heap.set_none'] at hpb); (with_reducible apply runO_go); simp only [go_sem, *])
    | ((with_reducible apply runO_alloc); (focus (simp only [go_sem, *]; rfl)); intro pb hpb; (try simp only [Heap.set_none'] at hpb); (with_reducible apply runO_go); simp only [go_sem, *])
    | ((with_reducible apply runD_box); (focus (simp only [go_sem, *]; done)); intro pb hpb; (try simp only [Heap.set_none'] at hpb); (with_reducible apply runD_go); simp only [go_sem, *])
    | ((with_reducible apply runD_alloc); (focus (simp only [go_sem, *]; rfl)); intro pb hpb; (try simp only [Heap.set_none'] at hpb); (with_reducible apply runD_go); simp only [go_sem, *])
    | ((with_reducible apply runO_makeMap); intro pb hpb; (try simp only [Heap.set_none'] at hpb); (with_reducible apply runO_go); simp only [go_sem, *])
    | ((with_reducible apply runO_store); (focus (simp only [go_sem]; rfl)); (focus (simp only [go_sem, *]; rfl)); (focus (simp only [go_sem, *]; rfl)); (focus (simp only [go_sem, *]; done)); (focus (simp only [go_sem, *]; done)); (focus (simp only [go_sem, *]; done)); (with_reducible apply runO_go); simp only [go_sem, *, Heap.set_set])
    | ((with_reducible apply runD_store); (focus (simp only [go_sem]; rfl)); (focus (simp only [go_sem, *]; rfl)); (focus (simp only [go_sem, *]; rfl)); (focus (simp only [go_sem, *]; done)); (focus (simp only [go_sem, *]; done)); (focus (simp only [go_sem, *]; done)); (with_reducible apply runD_go); simp only [go_sem, *, Heap.set_set])
    | ((with_reducible apply runD_skipF); (focus rfl); (focus (simp only [go_sem, *]; rfl)); (focus rfl); (with_reducible apply runD_go); simp only [go_sem, *])
    | ((with_reducible apply runO_skipF); (focus (simp only [go_sem, *]; rfl)); (focus rfl); (with_reducible apply runO_go); simp only [go_sem, *])
    | ((first | (with_reducible apply runA_and) | (with_reducible apply runO_and) | (with_reducible apply runD_and)); (focus (first | assumption | (simp only [go_sem, *]; done) | (simp only [go_sem, *]; assumption))); (try simp only [go_sem, *]))
    | ((with_reducible apply runO_callF known26); simp only [go_sem, *]; refine (ca _).use ?_; (with_reducible apply runO_go); simp only [go_sem, *])
    | ((with_reducible apply runO_callFG known26); (focus (simp only [go_sem, *]; rfl)); (focus (intro _; simp only [go_sem, *]; exact ca _)); (with_reducible apply runO_go); simp only [go_sem, *])
    | ((with_reducible apply runD_callF known26); (focus (simp only [go_sem, *]; exact ca _)); (with_reducible apply runD_go); simp only [go_sem, *])
    | ((with_reducible apply runD_callFG known26); (focus rfl); (focus (simp only [go_sem, *]; rfl)); (focus (intro _; simp only [go_sem, *]; exact ca _)); (with_reducible apply runD_go); simp only [go_sem, *])
      | ((with_reducible apply runO_callF known27); simp only [go_sem, *]; refine (c0 _).use ?_; (with_reducible apply runO_go); simp only [go_sem, *])
    | ((with_reducible apply runO_callFG known27); (focus (simp only [go_sem, *]; rfl)); (focus (intro _; simp only [go_sem, *]; exact c0 _)); (with_reducible apply runO_go); simp only [go_sem, *])
    | ((with_reducible apply runD_callF known27); (focus (simp only [go_sem, *]; exact c0 _)); (with_reducible apply runD_go); simp only [go_sem, *])
    | ((with_reducible apply runD_callFG known27); (focus rfl); (focus (simp only [go_sem, *]; rfl)); (focus (intro _; simp only [go_sem, *]; exact c0 _)); (with_reducible apply runD_go); simp only [go_sem, *])
      | ((with_reducible apply runO_callF known29); simp only [go_sem, *]; refine (d1 _).use ?_; (with_reducible apply runO_go); simp only [go_sem, *])
    | ((with_reducible apply runO_callFG known29); (focus (simp only [go_sem, *]; rfl)); (focus (intro _; simp only [go_sem, *]; exact d1 _)); (with_reducible apply runO_go); simp only [go_sem, *])
    | ((with_reducible apply runD_callF known29); (focus (simp only [go_sem, *]; exact d1 _)); (with_reducible apply runD_go); simp only [go_sem, *])
    | ((with_reducible apply runD_callFG known29); (focus rfl); (focus (simp only [go_sem, *]; rfl)); (focus (intro _; simp only [go_sem, *]; exact d1 _)); (with_reducible apply runD_go); simp only [go_sem, *])
      | ((with_reducible apply runO_callF known29); simp only [go_sem, *]; refine (d2 _).use ?_; (with_reducible apply runO_go); simp only [go_sem, *])
    | ((with_reducible apply runO_callFG known29); (focus (simp only [go_sem, *]; rfl)); (focus (intro _; simp only [go_sem, *]; exact d2 _)); (with_reducible apply runO_go); simp only [go_sem, *])
    | ((with_reducible apply runD_callF known29); (focus (simp only [go_sem, *]; exact d2 _)); (with_reducible apply runD_go); simp only [go_sem, *])
    | ((with_reducible apply runD_callFG known29); (focus rfl); (focus (simp only [go_sem, *]; rfl)); (focus (intro _; simp only [go_sem, *]; exact d2 _)); (with_reducible apply runD_go); simp only [go_sem, *])
      | ((with_reducible apply runO_callF known29); simp only [go_sem, *]; refine (d3 _).use ?_; (with_reducible apply runO_go); simp only [go_sem, *])
    | ((with_reducible apply runO_callFG known29); (focus (simp only [go_sem, *]; rfl)); (focus (intro _; simp only [go_sem, *]; exact d3 _)); (with_reducible apply runO_go); simp only [go_sem, *])
    | ((with_reducible apply runD_callF known29); (focus (simp only [go_sem, *]; exact d3 _)); (with_reducible apply runD_go); simp only [go_sem, *])
    | ((with_reducible apply runD_callFG known29); (focus rfl); (focus (simp only [go_sem, *]; rfl)); (focus (intro _; simp only [go_sem, *]; exact d3 _)); (with_reducible apply runD_go); simp only [go_sem, *])
      | ((with_reducible apply runO_callF known29); simp only [go_sem, *]; refine (d4 _).use ?_; (with_reducible apply runO_go); simp only [go_sem, *])
    | ((with_reducible apply runO_callFG known29); (focus (simp only [go_sem, *]; rfl)); (focus (intro _; simp only [go_sem, *]; exact d4 _)); (with_reducible apply runO_go); simp only [go_sem, *])
    | ((with_reducible apply runD_callF known29); (focus (simp only [go_sem, *]; exact d4 _)); (with_reducible apply runD_go); simp only [go_sem, *])
    | ((with_reducible apply runD_callFG known29); (focus rfl); (focus (simp only [go_sem, *]; rfl)); (focus (intro _; simp only [go_sem, *]; exact d4 _)); (with_reducible apply runD_go); simp only [go_sem, *])
      | ((with_reducible apply runO_callF known29); simp only [go_sem, *]; refine (d5 _).use ?_; (with_reducible apply runO_go); simp only [go_sem, *])
    | ((with_reducible apply runO_callFG known29); (focus (simp only [go_sem, *]; rfl)); (focus (intro _; simp only [go_sem, *]; exact d5 _)); (with_reducible apply runO_go); simp only [go_sem, *])
    | ((with_reducible apply runD_callF known29); (focus (simp only [go_sem, *]; exact d5 _)); (with_reducible apply runD_go); simp only [go_sem, *])
    | ((with_reducible apply runD_callFG known29); (focus rfl); (focus (simp only [go_sem, *]; rfl)); (focus (intro _; simp only [go_sem, *]; exact d5 _)); (with_reducible apply runD_go); simp only [go_sem, *])
      | ((with_reducible apply runO_callF known24); simp only [go_sem, *]; refine (depR_call W _ _ _).use ?_; (with_reducible apply runO_go); simp only [go_sem, *])
    | ((with_reducible apply runO_callFG known24); (focus (simp only [go_sem, *]; rfl)); (focus (intro _; simp only [go_sem, *]; exact depR_call W _ _ _)); (with_reducible apply runO_go); simp only [go_sem, *])
    | ((with_reducible apply runD_callF known24); (focus (simp only [go_sem, *]; exact depR_call W _ _ _)); (with_reducible apply runD_go); simp only [go_sem, *])
    | ((with_reducible apply runD_callFG known24); (focus rfl); (focus (simp only [go_sem, *]; rfl)); (focus (intro _; simp only [go_sem, *]; exact depR_call W _ _ _)); (with_reducible apply runD_go); simp only [go_sem, *])
    | ((with_reducible apply run_ret Try.func8 res8 (H' := H)); (focus (simp only [go_sem, *]; rfl)); (focus trivial); (focus (repeat (first | assumption | exact Heap.sub_refl _ | refine Heap.sub_congr ?_ | refine Heap.sub_set ?_ (by assumption) | refine Heap.sub_set2 ?_ (by first | assumption | (simp only [*]; done) | (simp only [Heap.set_none', ne_eq, *, not_false_eq_true, and_self]; done))))))
    | ((with_reducible apply run_end Try.func8 res8 (H' := H)); (focus (simp only [go_sem, *]; rfl)); (focus trivial); (focus (repeat (first | assumption | exact Heap.sub_refl _ | refine Heap.sub_congr ?_ | refine Heap.sub_set ?_ (by assumption) | refine Heap.sub_set2 ?_ (by first | assumption | (simp only [*]; done) | (simp only [Heap.set_none', ne_eq, *, not_false_eq_true, and_self]; done)))))))
    cases hd : depR (l.getD i' default) (l.getD j' default) with
    | false => rfl
    | true => rw [HL2.out hd]; rfl
  · have c0 := fun (h : l.length ≤ 40) H => rows_call W H l (by omega)
    by_cases h4 : l.length ≤ 40
    · have c0' := c0 h4
      have hcond : (decide ((l.length : Int) = 0) || !l.all rightR) = true := by
        rcases Nat.eq_zero_or_pos l.length with h | h
        · simp [h]
        · cases h5 : l.all rightR with
          | false => simp
          | true => exact absurd ⟨h4, h, h5⟩ hl
      have hn40 : ¬ (40 : Int) < (l.length : Int) := by omega
      clear hl c0
      repeat' (first
    | (with_reducible apply run_seq)
    | (with_reducible apply run_block)
    | (with_reducible apply run_inBlock)
    | (with_reducible apply run_skip)
    | (with_reducible apply run_exit rfl)
    | ((with_reducible apply run_go); simp only [go_sem, *])
    | ((with_reducible apply run_drawGo (fun _ => false) mixed); (focus kernel_rfl); simp only [go_sem, *])
    | ((with_reducible apply run_cond_t); (focus (simp only [go_sem, *]; done)))
    | ((with_reducible apply run_cond_f); (focus (simp only [go_sem, *]; done)))
    | ((with_reducible apply run_cond); (focus (simp only [go_sem, *]; rfl)); (all_goals intro _))
    | ((with_reducible apply runO_box); (focus (simp only [go_sem, *]; done)); intro pb hpb; (try simp only [Heap.set_none'] at hpb); (with_reducible apply runO_go); simp only [go_sem, *])
    | ((with_reducible apply runO_alloc); (focus (simp only [go_sem, *]; rfl)); intro pb hpb; (try simp only [Heap.set_none'] at hpb); (with_reducible apply runO_go); simp only [go_sem, *])
    | ((with_reducible apply runD_box); (focus (simp only [go_sem, *]; done)); intro pb hpb; (try simp only [Heap.set_none'] at hpb); (with_reducible apply runD_go); simp only [go_sem, *])
    | ((with_reducible apply runD_alloc); (focus (simp only [go_sem, *]; rfl)); intro pb hpb; (try simp only [Heap.set_none'] at hpb); (with_reducible apply runD_go); simp only [go_sem, *])
    | ((with_reducible apply runO_makeMap); intro pb hpb; (try simp only [Heap.set_none'] at hpb); (with_reducible apply runO_go); simp only [go_sem, *])
    | ((with_reducible apply runO_store); (focus (simp only [go_sem]; rfl)); (focus (simp only [go_sem, *]; rfl)); (focus (simp only [go_sem, *]; rfl)); (focus (simp only [go_sem, *]; done)); (focus (simp only [go_sem, *]; done)); (focus (simp only [go_sem, *]; done)); (with_reducible apply runO_go); simp only [go_sem, *, Heap.set_set])
    | ((with_reducible apply runD_store); (focus (simp only [go_sem]; rfl)); (focus (simp only [go_sem, *]; rfl)); (focus (simp only [go_sem, *]; rfl)); (focus (simp only [go_sem, *]; done)); (focus (simp only [go_sem, *]; done)); (focus (simp only [go_sem, *]; done)); (with_reducible apply runD_go); simp only [go_sem, *, Heap.set_set])
    | ((with_reducible apply runD_skipF); (focus rfl); (focus (simp only [go_sem, *]; rfl)); (focus rfl); (with_reducible apply runD_go); simp only [go_sem, *])
    | ((with_reducible apply runO_skipF); (focus (simp only [go_sem, *]; rfl)); (focus rfl); (with_reducible apply runO_go); simp only [go_sem, *])
    | ((first | (with_reducible apply runA_and) | (with_reducible apply runO_and) | (with_reducible apply runD_and)); (focus (first | assumption | (simp only [go_sem, *]; done) | (simp only [go_sem, *]; assumption))); (try simp only [go_sem, *]))
    | ((with_reducible apply runO_callF known26); simp only [go_sem, *]; refine (ca _).use ?_; (with_reducible apply runO_go); simp only [go_sem, *])
    | ((with_reducible apply runO_callFG known26); (focus (simp only [go_sem, *]; rfl)); (focus (intro _; simp only [go_sem, *]; exact ca _)); (with_reducible apply runO_go); simp only [go_sem, *])
    | ((with_reducible apply runD_callF known26); (focus (simp only [go_sem, *]; exact ca _)); (with_reducible apply runD_go); simp only [go_sem, *])
    | ((with_reducible apply runD_callFG known26); (focus rfl); (focus (simp only [go_sem, *]; rfl)); (focus (intro _; simp only [go_sem, *]; exact ca _)); (with_reducible apply runD_go); simp only [go_sem, *])
        | ((with_reducible apply runO_callF known27); simp only [go_sem, *]; refine (c0' _).use ?_; (with_reducible apply runO_go); simp only [go_sem, *])
    | ((with_reducible apply runO_callFG known27); (focus (simp only [go_sem, *]; rfl)); (focus (intro _; simp only [go_sem, *]; exact c0' _)); (with_reducible apply runO_go); simp only [go_sem, *])
    | ((with_reducible apply runD_callF known27); (focus (simp only [go_sem, *]; exact c0' _)); (with_reducible apply runD_go); simp only [go_sem, *])
    | ((with_reducible apply runD_callFG known27); (focus rfl); (focus (simp only [go_sem, *]; rfl)); (focus (intro _; simp only [go_sem, *]; exact c0' _)); (with_reducible apply runD_go); simp only [go_sem, *])
    | ((with_reducible apply run_ret Try.func8 res8 (H' := H)); (focus (simp only [go_sem, *]; rfl)); (focus trivial); (focus (repeat (first | assumption | exact Heap.sub_refl _ | refine Heap.sub_congr ?_ | refine Heap.sub_set ?_ (by assumption) | refine Heap.sub_set2 ?_ (by first | assumption | (simp only [*]; done) | (simp only [Heap.set_none', ne_eq, *, not_false_eq_true, and_self]; done))))))
    | ((with_reducible apply run_end Try.func8 res8 (H' := H)); (focus (simp only [go_sem, *]; rfl)); (focus trivial); (focus (repeat (first | assumption | exact Heap.sub_refl _ | refine Heap.sub_congr ?_ | refine Heap.sub_set ?_ (by assumption) | refine Heap.sub_set2 ?_ (by first | assumption | (simp only [*]; done) | (simp only [Heap.set_none', ne_eq, *, not_false_eq_true, and_self]; done)))))))
      rfl
    · have hn40 : (40 : Int) < (l.length : Int) := by omega
      have cr : False → ∀ H, CallA Try.prog W 27 [.list (evsC l)] H fun r H' => r = .v (.bool true) ∧ H' = H := fun h => h.elim
      repeat' (first
    | (with_reducible apply run_seq)
    | (with_reducible apply run_block)
    | (with_reducible apply run_inBlock)
    | (with_reducible apply run_skip)
    | (with_reducible apply run_exit rfl)
    | ((with_reducible apply run_go); simp only [go_sem, *])
    | ((with_reducible apply run_drawGo (fun _ => false) mixed); (focus kernel_rfl); simp only [go_sem, *])
    | ((with_reducible apply run_cond_t); (focus (simp only [go_sem, *]; done)))
    | ((with_reducible apply run_cond_f); (focus (simp only [go_sem, *]; done)))
    | ((with_reducible apply run_cond); (focus (simp only [go_sem, *]; rfl)); (all_goals intro _))
    | ((with_reducible apply runO_box); (focus (simp only [go_sem, *]; done)); intro pb hpb; (try simp only [Heap.set_none'] at hpb); (with_reducible apply runO_go); simp only [go_sem, *])
    | ((with_reducible apply runO_alloc); (focus (simp only [go_sem, *]; rfl)); intro pb hpb; (try simp only [Heap.set_none'] at hpb); (with_reducible apply runO_go); simp only [go_sem, *])
    | ((with_reducible apply runD_box); (focus (simp only [go_sem, *]; done)); intro pb hpb; (try simp only [Heap.set_none'] at hpb); (with_reducible apply runD_go); simp only [go_sem, *])
    | ((with_reducible apply runD_alloc); (focus (simp only [go_sem, *]; rfl)); intro pb hpb; (try simp only [Heap.set_none'] at hpb); (with_reducible apply runD_go); simp only [go_sem, *])
    | ((with_reducible apply runO_makeMap); intro pb hpb; (try simp only [Heap.set_none'] at hpb); (with_reducible apply runO_go); simp only [go_sem, *])
    | ((with_reducible apply runO_store); (focus (simp only [go_sem]; rfl)); (focus (simp only [go_sem, *]; rfl)); (focus (simp only [go_sem, *]; rfl)); (focus (simp only [go_sem, *]; done)); (focus (simp only [go_sem, *]; done)); (focus (simp only [go_sem, *]; done)); (with_reducible apply runO_go); simp only [go_sem, *, Heap.set_set])
    | ((with_reducible apply runD_store); (focus (simp only [go_sem]; rfl)); (focus (simp only [go_sem, *]; rfl)); (focus (simp only [go_sem, *]; rfl)); (focus (simp only [go_sem, *]; done)); (focus (simp only [go_sem, *]; done)); (focus (simp only [go_sem, *]; done)); (with_reducible apply runD_go); simp only [go_sem, *, Heap.set_set])
    | ((with_reducible apply runD_skipF); (focus rfl); (focus (simp only [go_sem, *]; rfl)); (focus rfl); (with_reducible apply runD_go); simp only [go_sem, *])
    | ((with_reducible apply runO_skipF); (focus (simp only [go_sem, *]; rfl)); (focus rfl); (with_reducible apply runO_go); simp only [go_sem, *])
    | ((first | (with_reducible apply runA_and) | (with_reducible apply runO_and) | (with_reducible apply runD_and)); (focus (first | assumption | (simp only [go_sem, *]; done) | (simp only [go_sem, *]; assumption))); (try simp only [go_sem, *]))
    | ((with_reducible apply runO_callF known26); simp only [go_sem, *]; refine (ca _).use ?_; (with_reducible apply runO_go); simp only [go_sem, *])
    | ((with_reducible apply runO_callFG known26); (focus (simp only [go_sem, *]; rfl)); (focus (intro _; simp only [go_sem, *]; exact ca _)); (with_reducible apply runO_go); simp only [go_sem, *])
    | ((with_reducible apply runD_callF known26); (focus (simp only [go_sem, *]; exact ca _)); (with_reducible apply runD_go); simp only [go_sem, *])
    | ((with_reducible apply runD_callFG known26); (focus rfl); (focus (simp only [go_sem, *]; rfl)); (focus (intro _; simp only [go_sem, *]; exact ca _)); (with_reducible apply runD_go); simp only [go_sem, *])
        | ((with_reducible apply runO_callF known27); simp only [go_sem, *]; refine ((rows_call W _ l (by rename_i hh; simp [allT] at hh))).use ?_; (with_reducible apply runO_go); simp only [go_sem, *])
    | ((with_reducible apply runO_callFG known27); (focus (simp only [go_sem, *]; rfl)); (focus (intro _; simp only [go_sem, *]; exact (rows_call W _ l (by rename_i hh; simp [allT] at hh)))); (with_reducible apply runO_go); simp only [go_sem, *])
    | ((with_reducible apply runD_callF known27); (focus (simp only [go_sem, *]; exact (rows_call W _ l (by rename_i hh; simp [allT] at hh)))); (with_reducible apply runD_go); simp only [go_sem, *])
    | ((with_reducible apply runD_callFG known27); (focus rfl); (focus (simp only [go_sem, *]; rfl)); (focus (intro _; simp only [go_sem, *]; exact (rows_call W _ l (by rename_i hh; simp [allT] at hh)))); (with_reducible apply runD_go); simp only [go_sem, *])
    | ((with_reducible apply run_ret Try.func8 res8 (H' := H)); (focus (simp only [go_sem, *]; rfl)); (focus trivial); (focus (repeat (first | assumption | exact Heap.sub_refl _ | refine Heap.sub_congr ?_ | refine Heap.sub_set ?_ (by assumption) | refine Heap.sub_set2 ?_ (by first | assumption | (simp only [*]; done) | (simp only [Heap.set_none', ne_eq, *, not_false_eq_true, and_self]; done))))))
    | ((with_reducible apply run_end Try.func8 res8 (H' := H)); (focus (simp only [go_sem, *]; rfl)); (focus trivial); (focus (repeat (first | assumption | exact Heap.sub_refl _ | refine Heap.sub_congr ?_ | refine Heap.sub_set ?_ (by assumption) | refine Heap.sub_set2 ?_ (by first | assumption | (simp only [*]; done) | (simp only [Heap.set_none', ne_eq, *, not_false_eq_true, and_self]; done)))))))
      rfl
end Go.Proofs.Ytakaimfpicjpaaa
