/-
  Contracts: states that are only read: what a thread would do next, who may.
-/
import Derived.Test.YtobdagjdhgjplaaStB
set_option linter.unusedSimpArgs false
set_option linter.unusedVariables false
namespace Go.Proofs.Ytobdagjdhgjplaa
open Go Go.Sn Go.RowKit

@[go_sem high] theorem nilD_get (n : Nat) : ([] : List D).getD n default = .v (.bool false) := rfl
theorem in0_ev : (inC in0).getD 0 default = .v (.int .i64 0) := rfl

set_option maxHeartbeats 4000000 in
theorem stNext_call (W : World) (H : Heap) (s : St) (t : Int) (hs : OkSt s) :
    CallA Try.prog W 31 [.ip (stC s), .v (.int .i64 t)] H fun r H' => r = .tup [.agg (evC (s.nxt t)), .v (.bool (s.has t))] ∧ H' = H := by
  refine call_in Try.func31 rfl Try.ntmps31 (by simp) ?_
  have c1 := fun H => stInstr_call W H s t hs
  repeat' (first
    | (with_reducible apply run_seq)
    | (with_reducible apply run_block)
    | (with_reducible apply run_inBlock)
    | (with_reducible apply run_skip)
    | (with_reducible apply run_exit rfl)
    | ((with_reducible apply run_go); simp only [go_sem, *])
    | ((with_reducible apply run_drawGo Cl.zero Cl.zero_plain mixed); (focus kernel_rfl); simp only [go_sem, *])
    | ((with_reducible apply run_cond_t); (focus (simp only [go_sem, *]; done)))
    | ((with_reducible apply run_cond_f); (focus (simp only [go_sem, *]; done)))
    | ((with_reducible apply run_cond); (focus (simp only [go_sem, *]; rfl)); (all_goals intro _))
    | ((with_reducible apply runO_alloc); (focus (simp only [go_sem, *]; rfl)); intro pb hpb; have hfb := Heap.ne_of_none hpb; (try simp only [Heap.set_none'] at hpb); (with_reducible apply runO_go); simp only [go_sem, *])
    | ((with_reducible apply runO_store); (focus (simp only [go_sem]; rfl)); (focus (simp only [go_sem, *]; rfl)); (focus (simp only [go_sem, *]; rfl)); (focus (simp only [go_sem, *]; done)); (focus (simp only [go_sem, *]; done)); (focus (simp only [go_sem, *]; done)); (with_reducible apply runO_go); simp only [go_sem, *, Heap.set_set])
    | ((with_reducible apply runD_store); (focus (simp only [go_sem]; rfl)); (focus (simp only [go_sem, *]; rfl)); (focus (simp only [go_sem, *]; rfl)); (focus (simp only [go_sem, *]; done)); (focus (simp only [go_sem, *]; done)); (focus (simp only [go_sem, *]; done)); (focus (first | rfl | (simp only [go_sem, *]; done))); (with_reducible first | apply runD_go Cl.zero_plain | apply runD_goC); simp only [go_sem, *, Heap.set_set])
    | ((first | (with_reducible apply runA_and) | (with_reducible apply runO_and) | (with_reducible apply runD_and)); (focus (first | assumption | (simp only [go_sem, *]; done) | (simp only [go_sem, *]; assumption))); (try simp only [go_sem, *]))
    | ((with_reducible apply run_ret Try.func31 res31 (H' := H)); (focus (simp only [go_sem, *]; rfl)); (focus trivial); (focus (repeat (first | assumption | exact Heap.sub_refl _ | refine Heap.sub_congr ?_ | refine Heap.sub_set ?_ (by assumption) | refine Heap.sub_set2 ?_ (by first | assumption | (simp only [*]; done) | (simp only [Heap.set_none', ne_eq, *, not_false_eq_true, and_self]; done)))))))
  generalize pb = p4 at *
  cases hh : s.has t with
  | false =>
    have hn : s.nxt t = ev0 := by unfold St.nxt; rw [hh]; rfl
    rw [hh] at c1
    rw [hn]
    repeat' (first
    | ((with_reducible apply runO_callF known54); simp only [go_sem, *]; refine (c1 _).use ?_; (with_reducible apply runO_go); simp only [go_sem, *])
      | ((with_reducible apply run_drawGoC (Cl.st p4) mixed); (focus kernel_rfl); simp only [go_sem, *])
    | (with_reducible apply run_seq)
    | (with_reducible apply run_block)
    | (with_reducible apply run_inBlock)
    | (with_reducible apply run_skip)
    | (with_reducible apply run_exit rfl)
    | ((with_reducible apply run_go); simp only [go_sem, *])
    | ((with_reducible apply run_drawGo Cl.zero Cl.zero_plain mixed); (focus kernel_rfl); simp only [go_sem, *])
    | ((with_reducible apply run_cond_t); (focus (simp only [go_sem, *]; done)))
    | ((with_reducible apply run_cond_f); (focus (simp only [go_sem, *]; done)))
    | ((with_reducible apply run_cond); (focus (simp only [go_sem, *]; rfl)); (all_goals intro _))
    | ((with_reducible apply runO_alloc); (focus (simp only [go_sem, *]; rfl)); intro pb hpb; have hfb := Heap.ne_of_none hpb; (try simp only [Heap.set_none'] at hpb); (with_reducible apply runO_go); simp only [go_sem, *])
    | ((with_reducible apply runO_store); (focus (simp only [go_sem]; rfl)); (focus (simp only [go_sem, *]; rfl)); (focus (simp only [go_sem, *]; rfl)); (focus (simp only [go_sem, *]; done)); (focus (simp only [go_sem, *]; done)); (focus (simp only [go_sem, *]; done)); (with_reducible apply runO_go); simp only [go_sem, *, Heap.set_set])
    | ((with_reducible apply runD_store); (focus (simp only [go_sem]; rfl)); (focus (simp only [go_sem, *]; rfl)); (focus (simp only [go_sem, *]; rfl)); (focus (simp only [go_sem, *]; done)); (focus (simp only [go_sem, *]; done)); (focus (simp only [go_sem, *]; done)); (focus (first | rfl | (simp only [go_sem, *]; done))); (with_reducible first | apply runD_go Cl.zero_plain | apply runD_goC); simp only [go_sem, *, Heap.set_set])
    | ((first | (with_reducible apply runA_and) | (with_reducible apply runO_and) | (with_reducible apply runD_and)); (focus (first | assumption | (simp only [go_sem, *]; done) | (simp only [go_sem, *]; assumption))); (try simp only [go_sem, *]))
    | ((with_reducible apply run_ret Try.func31 res31 (H' := H)); (focus (simp only [go_sem, *]; rfl)); (focus trivial); (focus (repeat (first | assumption | exact Heap.sub_refl _ | refine Heap.sub_congr ?_ | refine Heap.sub_set ?_ (by assumption) | refine Heap.sub_set2 ?_ (by first | assumption | (simp only [*]; done) | (simp only [Heap.set_none', ne_eq, *, not_false_eq_true, and_self]; done)))))))
    exact ⟨rfl, rfl⟩
  | true =>
    have hn : s.nxt t = s.evI t (s.ins t) := by unfold St.nxt; rw [hh]; rfl
    rw [hh] at c1
    rw [hn]
    obtain ⟨hi, _, _⟩ := hs.ins hh
    obtain ⟨k, rfl, hk⟩ := is_nat (s := s) (t := t) (by unfold St.has at hh; rw [Bool.and_eq_true] at hh; exact hh.1)
    have htd : s.td (k : Int) = s.ts.getD k default := rfl
    clear hn hh hs
    generalize s.ins (k : Int) = i at *
    unfold stC stD at c1 ⊢
    unfold St.evI
    rw [htd]
    clear htd
    generalize hX : s.ts.getD k default = X at *
    have hr := hi.r
    have hm := hi.mu
    clear hi
    unfold St.hol Td.reg
    obtain ⟨ik, ir, ix, iq⟩ := i
    simp only at hr hm ⊢
    by_cases k6 : ik = 6
    · subst k6
      rcases hm (.inr rfl) with rfl | rfl
      · clear hm
        repeat' (first
    | ((with_reducible apply runO_callF known54); simp only [go_sem, *]; refine (c1 _).use ?_; (with_reducible apply runO_go); simp only [go_sem, *])
          | ((with_reducible apply run_drawGoC (Cl.st p4) mixed); (focus kernel_rfl); simp only [go_sem, *])
    | (with_reducible apply run_seq)
    | (with_reducible apply run_block)
    | (with_reducible apply run_inBlock)
    | (with_reducible apply run_skip)
    | (with_reducible apply run_exit rfl)
    | ((with_reducible apply run_go); simp only [go_sem, *])
    | ((with_reducible apply run_drawGo Cl.zero Cl.zero_plain mixed); (focus kernel_rfl); simp only [go_sem, *])
    | ((with_reducible apply run_cond_t); (focus (simp only [go_sem, *]; done)))
    | ((with_reducible apply run_cond_f); (focus (simp only [go_sem, *]; done)))
    | ((with_reducible apply run_cond); (focus (simp only [go_sem, *]; rfl)); (all_goals intro _))
    | ((with_reducible apply runO_alloc); (focus (simp only [go_sem, *]; rfl)); intro pb hpb; have hfb := Heap.ne_of_none hpb; (try simp only [Heap.set_none'] at hpb); (with_reducible apply runO_go); simp only [go_sem, *])
    | ((with_reducible apply runO_store); (focus (simp only [go_sem]; rfl)); (focus (simp only [go_sem, *]; rfl)); (focus (simp only [go_sem, *]; rfl)); (focus (simp only [go_sem, *]; done)); (focus (simp only [go_sem, *]; done)); (focus (simp only [go_sem, *]; done)); (with_reducible apply runO_go); simp only [go_sem, *, Heap.set_set])
    | ((with_reducible apply runD_store); (focus (simp only [go_sem]; rfl)); (focus (simp only [go_sem, *]; rfl)); (focus (simp only [go_sem, *]; rfl)); (focus (simp only [go_sem, *]; done)); (focus (simp only [go_sem, *]; done)); (focus (simp only [go_sem, *]; done)); (focus (first | rfl | (simp only [go_sem, *]; done))); (with_reducible first | apply runD_go Cl.zero_plain | apply runD_goC); simp only [go_sem, *, Heap.set_set])
    | ((first | (with_reducible apply runA_and) | (with_reducible apply runO_and) | (with_reducible apply runD_and)); (focus (first | assumption | (simp only [go_sem, *]; done) | (simp only [go_sem, *]; assumption))); (try simp only [go_sem, *]))
    | ((with_reducible apply run_ret Try.func31 res31 (H' := H)); (focus (simp only [go_sem, *]; rfl)); (focus trivial); (focus (repeat (first | assumption | exact Heap.sub_refl _ | refine Heap.sub_congr ?_ | refine Heap.sub_set ?_ (by assumption) | refine Heap.sub_set2 ?_ (by first | assumption | (simp only [*]; done) | (simp only [Heap.set_none', ne_eq, *, not_false_eq_true, and_self]; done)))))))
        · rename_i hne
          simp only [decide_eq_true_eq, decide_eq_false_iff_not, Bool.not_eq_true', Bool.not_eq_false'] at hne
          simp only [if_true, Int.reduceEq, if_false, reduceIte, hne]
          exact ⟨rfl, trivial⟩
        · rename_i hne
          simp only [decide_eq_true_eq, decide_eq_false_iff_not, Bool.not_eq_true', Bool.not_eq_false'] at hne
          simp only [if_true, Int.reduceEq, if_false, reduceIte, hne]
          exact ⟨rfl, trivial⟩
      · clear hm
        repeat' (first
    | ((with_reducible apply runO_callF known54); simp only [go_sem, *]; refine (c1 _).use ?_; (with_reducible apply runO_go); simp only [go_sem, *])
          | ((with_reducible apply run_drawGoC (Cl.st p4) mixed); (focus kernel_rfl); simp only [go_sem, *])
    | (with_reducible apply run_seq)
    | (with_reducible apply run_block)
    | (with_reducible apply run_inBlock)
    | (with_reducible apply run_skip)
    | (with_reducible apply run_exit rfl)
    | ((with_reducible apply run_go); simp only [go_sem, *])
    | ((with_reducible apply run_drawGo Cl.zero Cl.zero_plain mixed); (focus kernel_rfl); simp only [go_sem, *])
    | ((with_reducible apply run_cond_t); (focus (simp only [go_sem, *]; done)))
    | ((with_reducible apply run_cond_f); (focus (simp only [go_sem, *]; done)))
    | ((with_reducible apply run_cond); (focus (simp only [go_sem, *]; rfl)); (all_goals intro _))
    | ((with_reducible apply runO_alloc); (focus (simp only [go_sem, *]; rfl)); intro pb hpb; have hfb := Heap.ne_of_none hpb; (try simp only [Heap.set_none'] at hpb); (with_reducible apply runO_go); simp only [go_sem, *])
    | ((with_reducible apply runO_store); (focus (simp only [go_sem]; rfl)); (focus (simp only [go_sem, *]; rfl)); (focus (simp only [go_sem, *]; rfl)); (focus (simp only [go_sem, *]; done)); (focus (simp only [go_sem, *]; done)); (focus (simp only [go_sem, *]; done)); (with_reducible apply runO_go); simp only [go_sem, *, Heap.set_set])
    | ((with_reducible apply runD_store); (focus (simp only [go_sem]; rfl)); (focus (simp only [go_sem, *]; rfl)); (focus (simp only [go_sem, *]; rfl)); (focus (simp only [go_sem, *]; done)); (focus (simp only [go_sem, *]; done)); (focus (simp only [go_sem, *]; done)); (focus (first | rfl | (simp only [go_sem, *]; done))); (with_reducible first | apply runD_go Cl.zero_plain | apply runD_goC); simp only [go_sem, *, Heap.set_set])
    | ((first | (with_reducible apply runA_and) | (with_reducible apply runO_and) | (with_reducible apply runD_and)); (focus (first | assumption | (simp only [go_sem, *]; done) | (simp only [go_sem, *]; assumption))); (try simp only [go_sem, *]))
    | ((with_reducible apply run_ret Try.func31 res31 (H' := H)); (focus (simp only [go_sem, *]; rfl)); (focus trivial); (focus (repeat (first | assumption | exact Heap.sub_refl _ | refine Heap.sub_congr ?_ | refine Heap.sub_set ?_ (by assumption) | refine Heap.sub_set2 ?_ (by first | assumption | (simp only [*]; done) | (simp only [Heap.set_none', ne_eq, *, not_false_eq_true, and_self]; done)))))))
        · rename_i hne
          simp only [decide_eq_true_eq, decide_eq_false_iff_not, Bool.not_eq_true', Bool.not_eq_false'] at hne
          simp only [if_true, Int.reduceEq, if_false, reduceIte, hne]
          exact ⟨rfl, trivial⟩
        · rename_i hne
          simp only [decide_eq_true_eq, decide_eq_false_iff_not, Bool.not_eq_true', Bool.not_eq_false'] at hne
          simp only [if_true, Int.reduceEq, if_false, reduceIte, hne]
          exact ⟨rfl, trivial⟩
    · clear hm
      by_cases k8 : ik = 8
      · subst k8
        rcases hr with rfl | rfl
        · repeat' (first
    | ((with_reducible apply runO_callF known54); simp only [go_sem, *]; refine (c1 _).use ?_; (with_reducible apply runO_go); simp only [go_sem, *])
      | ((with_reducible apply run_drawGoC (Cl.st p4) mixed); (focus kernel_rfl); simp only [go_sem, *])
    | (with_reducible apply run_seq)
    | (with_reducible apply run_block)
    | (with_reducible apply run_inBlock)
    | (with_reducible apply run_skip)
    | (with_reducible apply run_exit rfl)
    | ((with_reducible apply run_go); simp only [go_sem, *])
    | ((with_reducible apply run_drawGo Cl.zero Cl.zero_plain mixed); (focus kernel_rfl); simp only [go_sem, *])
    | ((with_reducible apply run_cond_t); (focus (simp only [go_sem, *]; done)))
    | ((with_reducible apply run_cond_f); (focus (simp only [go_sem, *]; done)))
    | ((with_reducible apply run_cond); (focus (simp only [go_sem, *]; rfl)); (all_goals intro _))
    | ((with_reducible apply runO_alloc); (focus (simp only [go_sem, *]; rfl)); intro pb hpb; have hfb := Heap.ne_of_none hpb; (try simp only [Heap.set_none'] at hpb); (with_reducible apply runO_go); simp only [go_sem, *])
    | ((with_reducible apply runO_store); (focus (simp only [go_sem]; rfl)); (focus (simp only [go_sem, *]; rfl)); (focus (simp only [go_sem, *]; rfl)); (focus (simp only [go_sem, *]; done)); (focus (simp only [go_sem, *]; done)); (focus (simp only [go_sem, *]; done)); (with_reducible apply runO_go); simp only [go_sem, *, Heap.set_set])
    | ((with_reducible apply runD_store); (focus (simp only [go_sem]; rfl)); (focus (simp only [go_sem, *]; rfl)); (focus (simp only [go_sem, *]; rfl)); (focus (simp only [go_sem, *]; done)); (focus (simp only [go_sem, *]; done)); (focus (simp only [go_sem, *]; done)); (focus (first | rfl | (simp only [go_sem, *]; done))); (with_reducible first | apply runD_go Cl.zero_plain | apply runD_goC); simp only [go_sem, *, Heap.set_set])
    | ((first | (with_reducible apply runA_and) | (with_reducible apply runO_and) | (with_reducible apply runD_and)); (focus (first | assumption | (simp only [go_sem, *]; done) | (simp only [go_sem, *]; assumption))); (try simp only [go_sem, *]))
    | ((with_reducible apply run_ret Try.func31 res31 (H' := H)); (focus (simp only [go_sem, *]; rfl)); (focus trivial); (focus (repeat (first | assumption | exact Heap.sub_refl _ | refine Heap.sub_congr ?_ | refine Heap.sub_set ?_ (by assumption) | refine Heap.sub_set2 ?_ (by first | assumption | (simp only [*]; done) | (simp only [Heap.set_none', ne_eq, *, not_false_eq_true, and_self]; done)))))))
          exact ⟨rfl, rfl⟩
        · repeat' (first
    | ((with_reducible apply runO_callF known54); simp only [go_sem, *]; refine (c1 _).use ?_; (with_reducible apply runO_go); simp only [go_sem, *])
      | ((with_reducible apply run_drawGoC (Cl.st p4) mixed); (focus kernel_rfl); simp only [go_sem, *])
    | (with_reducible apply run_seq)
    | (with_reducible apply run_block)
    | (with_reducible apply run_inBlock)
    | (with_reducible apply run_skip)
    | (with_reducible apply run_exit rfl)
    | ((with_reducible apply run_go); simp only [go_sem, *])
    | ((with_reducible apply run_drawGo Cl.zero Cl.zero_plain mixed); (focus kernel_rfl); simp only [go_sem, *])
    | ((with_reducible apply run_cond_t); (focus (simp only [go_sem, *]; done)))
    | ((with_reducible apply run_cond_f); (focus (simp only [go_sem, *]; done)))
    | ((with_reducible apply run_cond); (focus (simp only [go_sem, *]; rfl)); (all_goals intro _))
    | ((with_reducible apply runO_alloc); (focus (simp only [go_sem, *]; rfl)); intro pb hpb; have hfb := Heap.ne_of_none hpb; (try simp only [Heap.set_none'] at hpb); (with_reducible apply runO_go); simp only [go_sem, *])
    | ((with_reducible apply runO_store); (focus (simp only [go_sem]; rfl)); (focus (simp only [go_sem, *]; rfl)); (focus (simp only [go_sem, *]; rfl)); (focus (simp only [go_sem, *]; done)); (focus (simp only [go_sem, *]; done)); (focus (simp only [go_sem, *]; done)); (with_reducible apply runO_go); simp only [go_sem, *, Heap.set_set])
    | ((with_reducible apply runD_store); (focus (simp only [go_sem]; rfl)); (focus (simp only [go_sem, *]; rfl)); (focus (simp only [go_sem, *]; rfl)); (focus (simp only [go_sem, *]; done)); (focus (simp only [go_sem, *]; done)); (focus (simp only [go_sem, *]; done)); (focus (first | rfl | (simp only [go_sem, *]; done))); (with_reducible first | apply runD_go Cl.zero_plain | apply runD_goC); simp only [go_sem, *, Heap.set_set])
    | ((first | (with_reducible apply runA_and) | (with_reducible apply runO_and) | (with_reducible apply runD_and)); (focus (first | assumption | (simp only [go_sem, *]; done) | (simp only [go_sem, *]; assumption))); (try simp only [go_sem, *]))
    | ((with_reducible apply run_ret Try.func31 res31 (H' := H)); (focus (simp only [go_sem, *]; rfl)); (focus trivial); (focus (repeat (first | assumption | exact Heap.sub_refl _ | refine Heap.sub_congr ?_ | refine Heap.sub_set ?_ (by assumption) | refine Heap.sub_set2 ?_ (by first | assumption | (simp only [*]; done) | (simp only [Heap.set_none', ne_eq, *, not_false_eq_true, and_self]; done)))))))
          exact ⟨rfl, rfl⟩
      · clear hr
        by_cases k1 : ik = 1
        · subst k1
          repeat' (first
    | ((with_reducible apply runO_callF known54); simp only [go_sem, *]; refine (c1 _).use ?_; (with_reducible apply runO_go); simp only [go_sem, *])
      | ((with_reducible apply run_drawGoC (Cl.st p4) mixed); (focus kernel_rfl); simp only [go_sem, *])
    | (with_reducible apply run_seq)
    | (with_reducible apply run_block)
    | (with_reducible apply run_inBlock)
    | (with_reducible apply run_skip)
    | (with_reducible apply run_exit rfl)
    | ((with_reducible apply run_go); simp only [go_sem, *])
    | ((with_reducible apply run_drawGo Cl.zero Cl.zero_plain mixed); (focus kernel_rfl); simp only [go_sem, *])
    | ((with_reducible apply run_cond_t); (focus (simp only [go_sem, *]; done)))
    | ((with_reducible apply run_cond_f); (focus (simp only [go_sem, *]; done)))
    | ((with_reducible apply run_cond); (focus (simp only [go_sem, *]; rfl)); (all_goals intro _))
    | ((with_reducible apply runO_alloc); (focus (simp only [go_sem, *]; rfl)); intro pb hpb; have hfb := Heap.ne_of_none hpb; (try simp only [Heap.set_none'] at hpb); (with_reducible apply runO_go); simp only [go_sem, *])
    | ((with_reducible apply runO_store); (focus (simp only [go_sem]; rfl)); (focus (simp only [go_sem, *]; rfl)); (focus (simp only [go_sem, *]; rfl)); (focus (simp only [go_sem, *]; done)); (focus (simp only [go_sem, *]; done)); (focus (simp only [go_sem, *]; done)); (with_reducible apply runO_go); simp only [go_sem, *, Heap.set_set])
    | ((with_reducible apply runD_store); (focus (simp only [go_sem]; rfl)); (focus (simp only [go_sem, *]; rfl)); (focus (simp only [go_sem, *]; rfl)); (focus (simp only [go_sem, *]; done)); (focus (simp only [go_sem, *]; done)); (focus (simp only [go_sem, *]; done)); (focus (first | rfl | (simp only [go_sem, *]; done))); (with_reducible first | apply runD_go Cl.zero_plain | apply runD_goC); simp only [go_sem, *, Heap.set_set])
    | ((first | (with_reducible apply runA_and) | (with_reducible apply runO_and) | (with_reducible apply runD_and)); (focus (first | assumption | (simp only [go_sem, *]; done) | (simp only [go_sem, *]; assumption))); (try simp only [go_sem, *]))
    | ((with_reducible apply run_ret Try.func31 res31 (H' := H)); (focus (simp only [go_sem, *]; rfl)); (focus trivial); (focus (repeat (first | assumption | exact Heap.sub_refl _ | refine Heap.sub_congr ?_ | refine Heap.sub_set ?_ (by assumption) | refine Heap.sub_set2 ?_ (by first | assumption | (simp only [*]; done) | (simp only [Heap.set_none', ne_eq, *, not_false_eq_true, and_self]; done)))))))
          exact ⟨rfl, rfl⟩
        · by_cases k2 : ik = 2
          · subst k2
            repeat' (first
    | ((with_reducible apply runO_callF known54); simp only [go_sem, *]; refine (c1 _).use ?_; (with_reducible apply runO_go); simp only [go_sem, *])
      | ((with_reducible apply run_drawGoC (Cl.st p4) mixed); (focus kernel_rfl); simp only [go_sem, *])
    | (with_reducible apply run_seq)
    | (with_reducible apply run_block)
    | (with_reducible apply run_inBlock)
    | (with_reducible apply run_skip)
    | (with_reducible apply run_exit rfl)
    | ((with_reducible apply run_go); simp only [go_sem, *])
    | ((with_reducible apply run_drawGo Cl.zero Cl.zero_plain mixed); (focus kernel_rfl); simp only [go_sem, *])
    | ((with_reducible apply run_cond_t); (focus (simp only [go_sem, *]; done)))
    | ((with_reducible apply run_cond_f); (focus (simp only [go_sem, *]; done)))
    | ((with_reducible apply run_cond); (focus (simp only [go_sem, *]; rfl)); (all_goals intro _))
    | ((with_reducible apply runO_alloc); (focus (simp only [go_sem, *]; rfl)); intro pb hpb; have hfb := Heap.ne_of_none hpb; (try simp only [Heap.set_none'] at hpb); (with_reducible apply runO_go); simp only [go_sem, *])
    | ((with_reducible apply runO_store); (focus (simp only [go_sem]; rfl)); (focus (simp only [go_sem, *]; rfl)); (focus (simp only [go_sem, *]; rfl)); (focus (simp only [go_sem, *]; done)); (focus (simp only [go_sem, *]; done)); (focus (simp only [go_sem, *]; done)); (with_reducible apply runO_go); simp only [go_sem, *, Heap.set_set])
    | ((with_reducible apply runD_store); (focus (simp only [go_sem]; rfl)); (focus (simp only [go_sem, *]; rfl)); (focus (simp only [go_sem, *]; rfl)); (focus (simp only [go_sem, *]; done)); (focus (simp only [go_sem, *]; done)); (focus (simp only [go_sem, *]; done)); (focus (first | rfl | (simp only [go_sem, *]; done))); (with_reducible first | apply runD_go Cl.zero_plain | apply runD_goC); simp only [go_sem, *, Heap.set_set])
    | ((first | (with_reducible apply runA_and) | (with_reducible apply runO_and) | (with_reducible apply runD_and)); (focus (first | assumption | (simp only [go_sem, *]; done) | (simp only [go_sem, *]; assumption))); (try simp only [go_sem, *]))
    | ((with_reducible apply run_ret Try.func31 res31 (H' := H)); (focus (simp only [go_sem, *]; rfl)); (focus trivial); (focus (repeat (first | assumption | exact Heap.sub_refl _ | refine Heap.sub_congr ?_ | refine Heap.sub_set ?_ (by assumption) | refine Heap.sub_set2 ?_ (by first | assumption | (simp only [*]; done) | (simp only [Heap.set_none', ne_eq, *, not_false_eq_true, and_self]; done)))))))
            exact ⟨rfl, rfl⟩
          · by_cases k5 : ik = 5
            · subst k5
              repeat' (first
    | ((with_reducible apply runO_callF known54); simp only [go_sem, *]; refine (c1 _).use ?_; (with_reducible apply runO_go); simp only [go_sem, *])
      | ((with_reducible apply run_drawGoC (Cl.st p4) mixed); (focus kernel_rfl); simp only [go_sem, *])
    | (with_reducible apply run_seq)
    | (with_reducible apply run_block)
    | (with_reducible apply run_inBlock)
    | (with_reducible apply run_skip)
    | (with_reducible apply run_exit rfl)
    | ((with_reducible apply run_go); simp only [go_sem, *])
    | ((with_reducible apply run_drawGo Cl.zero Cl.zero_plain mixed); (focus kernel_rfl); simp only [go_sem, *])
    | ((with_reducible apply run_cond_t); (focus (simp only [go_sem, *]; done)))
    | ((with_reducible apply run_cond_f); (focus (simp only [go_sem, *]; done)))
    | ((with_reducible apply run_cond); (focus (simp only [go_sem, *]; rfl)); (all_goals intro _))
    | ((with_reducible apply runO_alloc); (focus (simp only [go_sem, *]; rfl)); intro pb hpb; have hfb := Heap.ne_of_none hpb; (try simp only [Heap.set_none'] at hpb); (with_reducible apply runO_go); simp only [go_sem, *])
    | ((with_reducible apply runO_store); (focus (simp only [go_sem]; rfl)); (focus (simp only [go_sem, *]; rfl)); (focus (simp only [go_sem, *]; rfl)); (focus (simp only [go_sem, *]; done)); (focus (simp only [go_sem, *]; done)); (focus (simp only [go_sem, *]; done)); (with_reducible apply runO_go); simp only [go_sem, *, Heap.set_set])
    | ((with_reducible apply runD_store); (focus (simp only [go_sem]; rfl)); (focus (simp only [go_sem, *]; rfl)); (focus (simp only [go_sem, *]; rfl)); (focus (simp only [go_sem, *]; done)); (focus (simp only [go_sem, *]; done)); (focus (simp only [go_sem, *]; done)); (focus (first | rfl | (simp only [go_sem, *]; done))); (with_reducible first | apply runD_go Cl.zero_plain | apply runD_goC); simp only [go_sem, *, Heap.set_set])
    | ((first | (with_reducible apply runA_and) | (with_reducible apply runO_and) | (with_reducible apply runD_and)); (focus (first | assumption | (simp only [go_sem, *]; done) | (simp only [go_sem, *]; assumption))); (try simp only [go_sem, *]))
    | ((with_reducible apply run_ret Try.func31 res31 (H' := H)); (focus (simp only [go_sem, *]; rfl)); (focus trivial); (focus (repeat (first | assumption | exact Heap.sub_refl _ | refine Heap.sub_congr ?_ | refine Heap.sub_set ?_ (by assumption) | refine Heap.sub_set2 ?_ (by first | assumption | (simp only [*]; done) | (simp only [Heap.set_none', ne_eq, *, not_false_eq_true, and_self]; done)))))))
              exact ⟨rfl, rfl⟩
            · repeat' (first
    | ((with_reducible apply runO_callF known54); simp only [go_sem, *]; refine (c1 _).use ?_; (with_reducible apply runO_go); simp only [go_sem, *])
      | ((with_reducible apply run_drawGoC (Cl.st p4) mixed); (focus kernel_rfl); simp only [go_sem, *])
    | (with_reducible apply run_seq)
    | (with_reducible apply run_block)
    | (with_reducible apply run_inBlock)
    | (with_reducible apply run_skip)
    | (with_reducible apply run_exit rfl)
    | ((with_reducible apply run_go); simp only [go_sem, *])
    | ((with_reducible apply run_drawGo Cl.zero Cl.zero_plain mixed); (focus kernel_rfl); simp only [go_sem, *])
    | ((with_reducible apply run_cond_t); (focus (simp only [go_sem, *]; done)))
    | ((with_reducible apply run_cond_f); (focus (simp only [go_sem, *]; done)))
    | ((with_reducible apply run_cond); (focus (simp only [go_sem, *]; rfl)); (all_goals intro _))
    | ((with_reducible apply runO_alloc); (focus (simp only [go_sem, *]; rfl)); intro pb hpb; have hfb := Heap.ne_of_none hpb; (try simp only [Heap.set_none'] at hpb); (with_reducible apply runO_go); simp only [go_sem, *])
    | ((with_reducible apply runO_store); (focus (simp only [go_sem]; rfl)); (focus (simp only [go_sem, *]; rfl)); (focus (simp only [go_sem, *]; rfl)); (focus (simp only [go_sem, *]; done)); (focus (simp only [go_sem, *]; done)); (focus (simp only [go_sem, *]; done)); (with_reducible apply runO_go); simp only [go_sem, *, Heap.set_set])
    | ((with_reducible apply runD_store); (focus (simp only [go_sem]; rfl)); (focus (simp only [go_sem, *]; rfl)); (focus (simp only [go_sem, *]; rfl)); (focus (simp only [go_sem, *]; done)); (focus (simp only [go_sem, *]; done)); (focus (simp only [go_sem, *]; done)); (focus (first | rfl | (simp only [go_sem, *]; done))); (with_reducible first | apply runD_go Cl.zero_plain | apply runD_goC); simp only [go_sem, *, Heap.set_set])
    | ((first | (with_reducible apply runA_and) | (with_reducible apply runO_and) | (with_reducible apply runD_and)); (focus (first | assumption | (simp only [go_sem, *]; done) | (simp only [go_sem, *]; assumption))); (try simp only [go_sem, *]))
    | ((with_reducible apply run_ret Try.func31 res31 (H' := H)); (focus (simp only [go_sem, *]; rfl)); (focus trivial); (focus (repeat (first | assumption | exact Heap.sub_refl _ | refine Heap.sub_congr ?_ | refine Heap.sub_set ?_ (by assumption) | refine Heap.sub_set2 ?_ (by first | assumption | (simp only [*]; done) | (simp only [Heap.set_none', ne_eq, *, not_false_eq_true, and_self]; done)))))))
              exact ⟨rfl, rfl⟩

theorem nxt_ob {s : St} (hs : OkSt s) {t : Int} (hh : s.has t = true) (h4 : (s.nxt t).kd = 4) : (s.nxt t).ob = 0 ∨ (s.nxt t).ob = 1 := by
  obtain ⟨hi, _, _⟩ := hs.ins hh
  have hn : s.nxt t = s.evI t (s.ins t) := by unfold St.nxt; rw [hh]; rfl
  rw [hn] at h4 ⊢
  unfold St.evI at h4 ⊢
  by_cases k1 : (s.ins t).kd = 1
  · rw [if_pos k1] at h4; simp at h4
  · rw [if_neg k1] at h4 ⊢
    by_cases k2 : (s.ins t).kd = 2
    · rw [if_pos k2] at h4; simp at h4
    · rw [if_neg k2] at h4 ⊢
      by_cases k5 : (s.ins t).kd = 5
      · rw [if_pos k5]; exact hi.mu (.inl k5)
      · rw [if_neg k5] at h4
        split at h4
        · split at h4 <;> simp at h4
        · split at h4 <;> simp at h4

theorem nxt_ob4 {s : St} (hs : OkSt s) {t : Int} (hh : s.has t = true) : (s.nxt t).ob = 0 ∨ (s.nxt t).ob = 1 ∨ (s.nxt t).ob = 2 ∨ (s.nxt t).ob = 3 := by
  obtain ⟨hi, _, _⟩ := hs.ins hh
  have hn : s.nxt t = s.evI t (s.ins t) := by unfold St.nxt; rw [hh]; rfl
  have hx := hi.x0
  have hv := hi.var
  have hm := hi.mu
  rw [hn]
  unfold St.evI
  by_cases k1 : (s.ins t).kd = 1
  · rw [if_pos k1]; have := hv (.inl k1); simp only; omega
  · rw [if_neg k1]
    by_cases k2 : (s.ins t).kd = 2
    · rw [if_pos k2]; have := hv (.inr k2); simp only; omega
    · rw [if_neg k2]
      by_cases k5 : (s.ins t).kd = 5
      · rw [if_pos k5]; have := hm (.inl k5); simp only; omega
      · rw [if_neg k5]
        by_cases k6 : (s.ins t).kd = 6
        · rw [if_pos k6]
          have := hm (.inr k6)
          split
          · simp only; omega
          · exact .inl rfl
        · rw [if_neg k6]; split <;> exact .inl rfl

set_option maxHeartbeats 4000000 in
theorem stEnabled_call (W : World) (H : Heap) (s : St) (t : Int) (hs : OkSt s) :
    CallA Try.prog W 33 [.ip (stC s), .v (.int .i64 t)] H fun r H' => r = .v (.bool (s.may t)) ∧ H' = H := by
  refine call_in Try.func33 rfl Try.ntmps33 (by simp) ?_
  have c1 := fun H => stNext_call W H s t hs
  have hob := fun h1 h2 => nxt_ob hs (t := t) h1 h2
  have hob4 := fun h1 => nxt_ob4 hs (t := t) h1
  unfold St.may
  cases hh : s.has t with
  | false =>
    have hn : s.nxt t = ev0 := by unfold St.nxt; rw [hh]; rfl
    rw [hh, hn] at c1
    rw [hn]
    clear hob hob4 hs
    unfold stC stD at c1 ⊢
    unfold ev0 at c1 ⊢
    repeat' (first
    | (with_reducible apply run_seq)
    | (with_reducible apply run_block)
    | (with_reducible apply run_inBlock)
    | (with_reducible apply run_skip)
    | (with_reducible apply run_exit rfl)
    | ((with_reducible apply run_go); simp only [go_sem, *])
    | ((with_reducible apply run_drawGo Cl.zero Cl.zero_plain mixed); (focus kernel_rfl); simp only [go_sem, *])
    | ((with_reducible apply runO_alloc); (focus (simp only [go_sem, *]; rfl)); intro pb hpb; have hfb := Heap.ne_of_none hpb; (try simp only [Heap.set_none'] at hpb); (with_reducible apply runO_go); simp only [go_sem, *])
    | ((with_reducible apply runO_store); (focus (simp only [go_sem]; rfl)); (focus (simp only [go_sem, *]; rfl)); (focus (simp only [go_sem, *]; rfl)); (focus (simp only [go_sem, *]; done)); (focus (simp only [go_sem, *]; done)); (focus (simp only [go_sem, *]; done)); (with_reducible apply runO_go); simp only [go_sem, *, Heap.set_set])
    | ((with_reducible apply runD_skipF); (focus rfl); (focus (simp only [go_sem, *]; rfl)); (focus rfl); (with_reducible first | apply runD_go Cl.zero_plain | apply runD_goC); simp only [go_sem, *])
    | ((first | (with_reducible apply runA_and) | (with_reducible apply runO_and) | (with_reducible apply runD_and)); (focus (first | assumption | (simp only [go_sem, *]; done) | (simp only [go_sem, *]; assumption))); (try simp only [go_sem, *]))
    | ((with_reducible apply runO_callF known31); simp only [go_sem, *]; refine (c1 _).use ?_; (with_reducible apply runO_go); simp only [go_sem, *])
    | ((with_reducible apply run_ret Try.func33 res33 (H' := H)); (focus (simp only [go_sem, *]; rfl)); (focus trivial); (focus (repeat (first | assumption | exact Heap.sub_refl _ | refine Heap.sub_congr ?_ | refine Heap.sub_set ?_ (by assumption) | refine Heap.sub_set2 ?_ (by first | assumption | (simp only [*]; done) | (simp only [Heap.set_none', ne_eq, *, not_false_eq_true, and_self]; done)))))))
    exact ⟨rfl, rfl⟩
  | true =>
    have hob' := hob hh
    have ho4 := hob4 hh
    rw [hh] at c1
    clear hob hob4 hs hh
    generalize s.nxt t = e at *
    by_cases h4 : e.kd = 4
    · have ho := hob' h4
      clear hob'
      unfold stC stD at c1 ⊢
      unfold St.hol
      obtain ⟨e1, e2, e3, e4⟩ := e
      simp only at ho h4 ⊢
      subst h4
      rcases ho with rfl | rfl
      · repeat' (first
    | (with_reducible apply run_seq)
    | (with_reducible apply run_block)
    | (with_reducible apply run_inBlock)
    | (with_reducible apply run_skip)
    | (with_reducible apply run_exit rfl)
    | ((with_reducible apply run_go); simp only [go_sem, *])
    | ((with_reducible apply run_drawGo Cl.zero Cl.zero_plain mixed); (focus kernel_rfl); simp only [go_sem, *])
    | ((with_reducible apply runO_alloc); (focus (simp only [go_sem, *]; rfl)); intro pb hpb; have hfb := Heap.ne_of_none hpb; (try simp only [Heap.set_none'] at hpb); (with_reducible apply runO_go); simp only [go_sem, *])
    | ((with_reducible apply runO_store); (focus (simp only [go_sem]; rfl)); (focus (simp only [go_sem, *]; rfl)); (focus (simp only [go_sem, *]; rfl)); (focus (simp only [go_sem, *]; done)); (focus (simp only [go_sem, *]; done)); (focus (simp only [go_sem, *]; done)); (with_reducible apply runO_go); simp only [go_sem, *, Heap.set_set])
    | ((with_reducible apply runD_skipF); (focus rfl); (focus (simp only [go_sem, *]; rfl)); (focus rfl); (with_reducible first | apply runD_go Cl.zero_plain | apply runD_goC); simp only [go_sem, *])
    | ((first | (with_reducible apply runA_and) | (with_reducible apply runO_and) | (with_reducible apply runD_and)); (focus (first | assumption | (simp only [go_sem, *]; done) | (simp only [go_sem, *]; assumption))); (try simp only [go_sem, *]))
    | ((with_reducible apply runO_callF known31); simp only [go_sem, *]; refine (c1 _).use ?_; (with_reducible apply runO_go); simp only [go_sem, *])
    | ((with_reducible apply run_ret Try.func33 res33 (H' := H)); (focus (simp only [go_sem, *]; rfl)); (focus trivial); (focus (repeat (first | assumption | exact Heap.sub_refl _ | refine Heap.sub_congr ?_ | refine Heap.sub_set ?_ (by assumption) | refine Heap.sub_set2 ?_ (by first | assumption | (simp only [*]; done) | (simp only [Heap.set_none', ne_eq, *, not_false_eq_true, and_self]; done)))))))
        exact ⟨rfl, rfl⟩
      · repeat' (first
    | (with_reducible apply run_seq)
    | (with_reducible apply run_block)
    | (with_reducible apply run_inBlock)
    | (with_reducible apply run_skip)
    | (with_reducible apply run_exit rfl)
    | ((with_reducible apply run_go); simp only [go_sem, *])
    | ((with_reducible apply run_drawGo Cl.zero Cl.zero_plain mixed); (focus kernel_rfl); simp only [go_sem, *])
    | ((with_reducible apply runO_alloc); (focus (simp only [go_sem, *]; rfl)); intro pb hpb; have hfb := Heap.ne_of_none hpb; (try simp only [Heap.set_none'] at hpb); (with_reducible apply runO_go); simp only [go_sem, *])
    | ((with_reducible apply runO_store); (focus (simp only [go_sem]; rfl)); (focus (simp only [go_sem, *]; rfl)); (focus (simp only [go_sem, *]; rfl)); (focus (simp only [go_sem, *]; done)); (focus (simp only [go_sem, *]; done)); (focus (simp only [go_sem, *]; done)); (with_reducible apply runO_go); simp only [go_sem, *, Heap.set_set])
    | ((with_reducible apply runD_skipF); (focus rfl); (focus (simp only [go_sem, *]; rfl)); (focus rfl); (with_reducible first | apply runD_go Cl.zero_plain | apply runD_goC); simp only [go_sem, *])
    | ((first | (with_reducible apply runA_and) | (with_reducible apply runO_and) | (with_reducible apply runD_and)); (focus (first | assumption | (simp only [go_sem, *]; done) | (simp only [go_sem, *]; assumption))); (try simp only [go_sem, *]))
    | ((with_reducible apply runO_callF known31); simp only [go_sem, *]; refine (c1 _).use ?_; (with_reducible apply runO_go); simp only [go_sem, *])
    | ((with_reducible apply run_ret Try.func33 res33 (H' := H)); (focus (simp only [go_sem, *]; rfl)); (focus trivial); (focus (repeat (first | assumption | exact Heap.sub_refl _ | refine Heap.sub_congr ?_ | refine Heap.sub_set ?_ (by assumption) | refine Heap.sub_set2 ?_ (by first | assumption | (simp only [*]; done) | (simp only [Heap.set_none', ne_eq, *, not_false_eq_true, and_self]; done)))))))
        exact ⟨rfl, rfl⟩
    · clear hob'
      unfold stC stD at c1 ⊢
      unfold St.hol
      obtain ⟨e1, e2, e3, e4⟩ := e
      simp only at ho4 h4 ⊢
      rcases ho4 with rfl | rfl | rfl | rfl
      · repeat' (first
    | (with_reducible apply run_seq)
    | (with_reducible apply run_block)
    | (with_reducible apply run_inBlock)
    | (with_reducible apply run_skip)
    | (with_reducible apply run_exit rfl)
    | ((with_reducible apply run_go); simp only [go_sem, *])
    | ((with_reducible apply run_drawGo Cl.zero Cl.zero_plain mixed); (focus kernel_rfl); simp only [go_sem, *])
    | ((with_reducible apply runO_alloc); (focus (simp only [go_sem, *]; rfl)); intro pb hpb; have hfb := Heap.ne_of_none hpb; (try simp only [Heap.set_none'] at hpb); (with_reducible apply runO_go); simp only [go_sem, *])
    | ((with_reducible apply runO_store); (focus (simp only [go_sem]; rfl)); (focus (simp only [go_sem, *]; rfl)); (focus (simp only [go_sem, *]; rfl)); (focus (simp only [go_sem, *]; done)); (focus (simp only [go_sem, *]; done)); (focus (simp only [go_sem, *]; done)); (with_reducible apply runO_go); simp only [go_sem, *, Heap.set_set])
    | ((with_reducible apply runD_skipF); (focus rfl); (focus (simp only [go_sem, *]; rfl)); (focus rfl); (with_reducible first | apply runD_go Cl.zero_plain | apply runD_goC); simp only [go_sem, *])
    | ((first | (with_reducible apply runA_and) | (with_reducible apply runO_and) | (with_reducible apply runD_and)); (focus (first | assumption | (simp only [go_sem, *]; done) | (simp only [go_sem, *]; assumption))); (try simp only [go_sem, *]))
    | ((with_reducible apply runO_callF known31); simp only [go_sem, *]; refine (c1 _).use ?_; (with_reducible apply runO_go); simp only [go_sem, *])
    | ((with_reducible apply run_ret Try.func33 res33 (H' := H)); (focus (simp only [go_sem, *]; rfl)); (focus trivial); (focus (repeat (first | assumption | exact Heap.sub_refl _ | refine Heap.sub_congr ?_ | refine Heap.sub_set ?_ (by assumption) | refine Heap.sub_set2 ?_ (by first | assumption | (simp only [*]; done) | (simp only [Heap.set_none', ne_eq, *, not_false_eq_true, and_self]; done)))))))
        exact ⟨rfl, rfl⟩
      · repeat' (first
    | (with_reducible apply run_seq)
    | (with_reducible apply run_block)
    | (with_reducible apply run_inBlock)
    | (with_reducible apply run_skip)
    | (with_reducible apply run_exit rfl)
    | ((with_reducible apply run_go); simp only [go_sem, *])
    | ((with_reducible apply run_drawGo Cl.zero Cl.zero_plain mixed); (focus kernel_rfl); simp only [go_sem, *])
    | ((with_reducible apply runO_alloc); (focus (simp only [go_sem, *]; rfl)); intro pb hpb; have hfb := Heap.ne_of_none hpb; (try simp only [Heap.set_none'] at hpb); (with_reducible apply runO_go); simp only [go_sem, *])
    | ((with_reducible apply runO_store); (focus (simp only [go_sem]; rfl)); (focus (simp only [go_sem, *]; rfl)); (focus (simp only [go_sem, *]; rfl)); (focus (simp only [go_sem, *]; done)); (focus (simp only [go_sem, *]; done)); (focus (simp only [go_sem, *]; done)); (with_reducible apply runO_go); simp only [go_sem, *, Heap.set_set])
    | ((with_reducible apply runD_skipF); (focus rfl); (focus (simp only [go_sem, *]; rfl)); (focus rfl); (with_reducible first | apply runD_go Cl.zero_plain | apply runD_goC); simp only [go_sem, *])
    | ((first | (with_reducible apply runA_and) | (with_reducible apply runO_and) | (with_reducible apply runD_and)); (focus (first | assumption | (simp only [go_sem, *]; done) | (simp only [go_sem, *]; assumption))); (try simp only [go_sem, *]))
    | ((with_reducible apply runO_callF known31); simp only [go_sem, *]; refine (c1 _).use ?_; (with_reducible apply runO_go); simp only [go_sem, *])
    | ((with_reducible apply run_ret Try.func33 res33 (H' := H)); (focus (simp only [go_sem, *]; rfl)); (focus trivial); (focus (repeat (first | assumption | exact Heap.sub_refl _ | refine Heap.sub_congr ?_ | refine Heap.sub_set ?_ (by assumption) | refine Heap.sub_set2 ?_ (by first | assumption | (simp only [*]; done) | (simp only [Heap.set_none', ne_eq, *, not_false_eq_true, and_self]; done)))))))
        exact ⟨rfl, rfl⟩
      · repeat' (first
    | (with_reducible apply run_seq)
    | (with_reducible apply run_block)
    | (with_reducible apply run_inBlock)
    | (with_reducible apply run_skip)
    | (with_reducible apply run_exit rfl)
    | ((with_reducible apply run_go); simp only [go_sem, *])
    | ((with_reducible apply run_drawGo Cl.zero Cl.zero_plain mixed); (focus kernel_rfl); simp only [go_sem, *])
    | ((with_reducible apply runO_alloc); (focus (simp only [go_sem, *]; rfl)); intro pb hpb; have hfb := Heap.ne_of_none hpb; (try simp only [Heap.set_none'] at hpb); (with_reducible apply runO_go); simp only [go_sem, *])
    | ((with_reducible apply runO_store); (focus (simp only [go_sem]; rfl)); (focus (simp only [go_sem, *]; rfl)); (focus (simp only [go_sem, *]; rfl)); (focus (simp only [go_sem, *]; done)); (focus (simp only [go_sem, *]; done)); (focus (simp only [go_sem, *]; done)); (with_reducible apply runO_go); simp only [go_sem, *, Heap.set_set])
    | ((with_reducible apply runD_skipF); (focus rfl); (focus (simp only [go_sem, *]; rfl)); (focus rfl); (with_reducible first | apply runD_go Cl.zero_plain | apply runD_goC); simp only [go_sem, *])
    | ((first | (with_reducible apply runA_and) | (with_reducible apply runO_and) | (with_reducible apply runD_and)); (focus (first | assumption | (simp only [go_sem, *]; done) | (simp only [go_sem, *]; assumption))); (try simp only [go_sem, *]))
    | ((with_reducible apply runO_callF known31); simp only [go_sem, *]; refine (c1 _).use ?_; (with_reducible apply runO_go); simp only [go_sem, *])
    | ((with_reducible apply run_ret Try.func33 res33 (H' := H)); (focus (simp only [go_sem, *]; rfl)); (focus trivial); (focus (repeat (first | assumption | exact Heap.sub_refl _ | refine Heap.sub_congr ?_ | refine Heap.sub_set ?_ (by assumption) | refine Heap.sub_set2 ?_ (by first | assumption | (simp only [*]; done) | (simp only [Heap.set_none', ne_eq, *, not_false_eq_true, and_self]; done)))))))
        exact ⟨rfl, rfl⟩
      · repeat' (first
    | (with_reducible apply run_seq)
    | (with_reducible apply run_block)
    | (with_reducible apply run_inBlock)
    | (with_reducible apply run_skip)
    | (with_reducible apply run_exit rfl)
    | ((with_reducible apply run_go); simp only [go_sem, *])
    | ((with_reducible apply run_drawGo Cl.zero Cl.zero_plain mixed); (focus kernel_rfl); simp only [go_sem, *])
    | ((with_reducible apply runO_alloc); (focus (simp only [go_sem, *]; rfl)); intro pb hpb; have hfb := Heap.ne_of_none hpb; (try simp only [Heap.set_none'] at hpb); (with_reducible apply runO_go); simp only [go_sem, *])
    | ((with_reducible apply runO_store); (focus (simp only [go_sem]; rfl)); (focus (simp only [go_sem, *]; rfl)); (focus (simp only [go_sem, *]; rfl)); (focus (simp only [go_sem, *]; done)); (focus (simp only [go_sem, *]; done)); (focus (simp only [go_sem, *]; done)); (with_reducible apply runO_go); simp only [go_sem, *, Heap.set_set])
    | ((with_reducible apply runD_skipF); (focus rfl); (focus (simp only [go_sem, *]; rfl)); (focus rfl); (with_reducible first | apply runD_go Cl.zero_plain | apply runD_goC); simp only [go_sem, *])
    | ((first | (with_reducible apply runA_and) | (with_reducible apply runO_and) | (with_reducible apply runD_and)); (focus (first | assumption | (simp only [go_sem, *]; done) | (simp only [go_sem, *]; assumption))); (try simp only [go_sem, *]))
    | ((with_reducible apply runO_callF known31); simp only [go_sem, *]; refine (c1 _).use ?_; (with_reducible apply runO_go); simp only [go_sem, *])
    | ((with_reducible apply run_ret Try.func33 res33 (H' := H)); (focus (simp only [go_sem, *]; rfl)); (focus trivial); (focus (repeat (first | assumption | exact Heap.sub_refl _ | refine Heap.sub_congr ?_ | refine Heap.sub_set ?_ (by assumption) | refine Heap.sub_set2 ?_ (by first | assumption | (simp only [*]; done) | (simp only [Heap.set_none', ne_eq, *, not_false_eq_true, and_self]; done)))))))
        exact ⟨rfl, rfl⟩
end Go.Proofs.Ytobdagjdhgjplaa
