/-
  Contracts: the document's words of who sleeps.
-/
import Derived.Test.YtcfeklnmampndaaSlD
import Derived.Test.YtcfeklnmampndaaStR
import Derived.Test.YtcfeklnmampndaaEvRb
set_option linter.unusedSimpArgs false
set_option linter.unusedVariables false
namespace Go.Proofs.Ytcfeklnmampndaa
open Go Go.Sn Go.RowKit
-- NONE stH_none

def chC (s : St) (sa ea : List Int) (t : Int) (j : Nat) : Bool := !decide ((j : Int) = t) && (decide ((j : Int) ∈ sa) || decide ((j : Int) ∈ ea)) && s.has (j : Int) && !depR (s.nxt (j : Int)) (s.nxt t)
def chR (s : St) (sa ea : List Int) (t : Int) (k : Nat) : List Int := ((List.range k).filter fun j => chC s sa ea t j).map fun j : Nat => (j : Int)
def chD (s : St) (sa ea : List Int) (t : Int) : List Int := if s.has t then chR s sa ea t 8 else []
theorem chR_succ (s : St) (sa ea : List Int) (t : Int) (k : Nat) : chR s sa ea t (k + 1) = if chC s sa ea t k then chR s sa ea t k ++ [(k : Int)] else chR s sa ea t k := by
  unfold chR
  rw [List.range_succ, List.filter_append, List.map_append]
  cases h : chC s sa ea t k <;> simp [h]
theorem chR_len (s : St) (sa ea : List Int) (t : Int) (k : Nat) : (chR s sa ea t k).length ≤ k := by
  unfold chR
  rw [List.length_map]
  exact Nat.le_trans (List.length_filter_le _ _) (by rw [List.length_range]; exact Nat.le_refl _)

set_option maxHeartbeats 8000000 in
theorem rChild_call (W : World) (H : Heap) (l : Lo) (s : St) (h : AtR H l s) (hs : OkSt s) (sa ea : List Int) (t : Int) (ha : sa.length ≤ 1000000) (he : ea.length ≤ 1000000) :
    CallA Try.prog W 46 [.v (.pointer (some ⟨l.b, 0, none⟩)), .list (intsC sa), .list (intsC ea), .v (.int .i64 t)] H fun r H' => r = .list (intsC (chD s sa ea t)) ∧ H' = H := by
  refine call_in Try.func46 rfl Try.ntmps46 (by simp) ?_
  have c1 := fun H' (hk : H.sub H') (u : Int) => nNext_call W (h.mono hk) u hs
  clear h hs
  cases hh : s.has t with
  | false =>
    have hE : chD s sa ea t = [] := by unfold chD; rw [hh]; rfl
    have c5 := fun H' (hk : H.sub H') => c1 H' hk t
    rw [hh] at c5
    rw [hE]
    repeat' (first
    | (with_reducible apply run_seq)
    | (with_reducible apply run_block)
    | (with_reducible apply run_skip)
    | ((with_reducible apply run_go); simp only [go_sem, *])
    | ((with_reducible apply run_cond_f); (focus (simp only [go_sem, *]; done)))
    | ((with_reducible apply runO_alloc); (focus (simp only [go_sem, *]; rfl)); intro pb hpb; have hfb := Heap.ne_of_none hpb; (try simp only [Heap.set_none', stH_none] at hpb); (with_reducible apply runO_go); simp only [go_sem, *])
    | ((with_reducible apply runO_store); (focus (simp only [go_sem]; rfl)); (focus (simp only [go_sem, *]; rfl)); (focus (simp only [go_sem, *]; rfl)); (focus (simp only [go_sem, *]; done)); (focus (simp only [go_sem, *]; done)); (focus (simp only [go_sem, *]; done)); (with_reducible apply runO_go); simp only [go_sem, *, Heap.set_set])
    | ((with_reducible apply runO_callF known59); simp only [go_sem, *]; refine (c5 _ (by (repeat (first | assumption | exact Heap.sub_refl _ | refine Heap.sub_congr ?_ | refine Heap.sub_set ?_ (by assumption) | refine Heap.sub_set2 ?_ (by first | assumption | (simp only [*]; done) | (simp only [Heap.set_none', stH_none, ne_eq, *, not_false_eq_true, and_self]; done)))); done)).use ?_; (with_reducible apply runO_go); simp only [go_sem, *]))
    refine run_loop1 ?_
    repeat' (first
    | (with_reducible apply run_seq)
    | (with_reducible apply run_exit rfl)
    | ((with_reducible apply run_go); simp only [go_sem, *])
    | ((with_reducible apply run_cond_f); (focus (simp only [go_sem, *]; done)))
    | ((with_reducible apply run_ret Try.func46 res46 (H' := H)); (focus (simp only [go_sem, *]; rfl)); (focus trivial); (focus (repeat (first | assumption | exact Heap.sub_refl _ | refine Heap.sub_congr ?_ | refine Heap.sub_set ?_ (by assumption) | refine Heap.sub_set2 ?_ (by first | assumption | (simp only [*]; done) | (simp only [Heap.set_none', stH_none, ne_eq, *, not_false_eq_true, and_self]; done)))))))
    exact ⟨rfl, rfl⟩
  | true =>
    have hE : chD s sa ea t = chR s sa ea t 8 := by unfold chD; rw [hh]; rfl
    have c5 := fun H' (hk : H.sub H') => c1 H' hk t
    rw [hh] at c5
    rw [hE]
    clear hE hh
    repeat' (first
    | (with_reducible apply run_seq)
    | (with_reducible apply run_block)
    | (with_reducible apply run_skip)
    | ((with_reducible apply run_go); simp only [go_sem, *])
    | ((with_reducible apply run_cond_f); (focus (simp only [go_sem, *]; done)))
    | ((with_reducible apply runO_alloc); (focus (simp only [go_sem, *]; rfl)); intro pb hpb; have hfb := Heap.ne_of_none hpb; (try simp only [Heap.set_none', stH_none] at hpb); (with_reducible apply runO_go); simp only [go_sem, *])
    | ((with_reducible apply runO_store); (focus (simp only [go_sem]; rfl)); (focus (simp only [go_sem, *]; rfl)); (focus (simp only [go_sem, *]; rfl)); (focus (simp only [go_sem, *]; done)); (focus (simp only [go_sem, *]; done)); (focus (simp only [go_sem, *]; done)); (with_reducible apply runO_go); simp only [go_sem, *, Heap.set_set])
    | ((with_reducible apply runO_callF known59); simp only [go_sem, *]; refine (c5 _ (by (repeat (first | assumption | exact Heap.sub_refl _ | refine Heap.sub_congr ?_ | refine Heap.sub_set ?_ (by assumption) | refine Heap.sub_set2 ?_ (by first | assumption | (simp only [*]; done) | (simp only [Heap.set_none', stH_none, ne_eq, *, not_false_eq_true, and_self]; done)))); done)).use ?_; (with_reducible apply runO_go); simp only [go_sem, *]))
    generalize pb = p9 at *
    have hsub9 : H.sub (H.set p9 (.cells (evC (s.nxt t)) 110)) := Heap.sub_set (Heap.sub_refl _) hpb
    have hp9 : (H.set p9 (.cells (evC (s.nxt t)) 110)) p9 = some (.cells (evC (s.nxt t)) 110) := Heap.set_same _ _ _
    generalize H.set p9 (.cells (evC (s.nxt t)) 110) = K at *
    clear hfb c5 hpb
    refine run_loop (fun nb eb Hb => ∃ (k : Nat), k ≤ 8 ∧ nb = 8 - k ∧ eb 0 = .v (.pointer (some ⟨l.b, 0, none⟩)) ∧ eb 1 = .list (intsC sa) ∧ eb 2 = .list (intsC ea) ∧ eb 3 = .v (.int .i64 t) ∧ eb 10 = .v (.pointer (some ⟨p9, 0, none⟩)) ∧ eb 11 = .v (.bool true) ∧ eb 12 = .v (.int .i64 (k : Int)) ∧ Coll (K) (3) (1) (intsC (chR s sa ea t k)) (eb 9) Hb) (8)
        ⟨0, Nat.zero_le _, rfl, (by simp only [go_sem, *]), (by simp only [go_sem, *]), (by simp only [go_sem, *]), (by simp only [go_sem, *]), (by simp only [go_sem, *]), (by simp only [go_sem, *]), (by simp only [go_sem] <;> rfl), (by simp only [go_sem]; exact .none rfl)⟩ ?_
    rintro nb eb Hb ih ⟨k, bk, rfl, bs0, bs1, bs2, bs3, bs10, bs11, bs12, cb⟩
    generalize hbc : eb 9 = db at cb
    have IHb : Hid _ := ih
    clear ih
    have hsub := cb.sub
    have hq9 := hsub _ _ hp9
    have hsubH := hsub9.trans hsub
    have hfl := cb.flat
    by_cases hlt : k < 8
    · have hw := wrap_succ (k := k) (by omega)
      have hlt' : (k : Int) < 8 := by omega
      have hcl := chR_len s sa ea t k
      have hsu := chR_succ s sa ea t k
      unfold chC at hsu
      have c2 := fun H' (hk : H.sub H') => c1 H' hk (k : Int)
      have c3 := fun H => depR_call W H (s.nxt (k : Int)) (s.nxt t)
      have c4 := fun H => in_call W H sa (k : Int) ha
      have c5 := fun H => in_call W H ea (k : Int) he
      have HSU : Hid _ := hsu
      clear hsu
      generalize s.has (k : Int) = b3 at *
      generalize depR (s.nxt (k : Int)) (s.nxt t) = b4 at *
      generalize decide ((k : Int) ∈ sa) = b1 at *
      generalize decide ((k : Int) ∈ ea) = b2 at *
      by_cases hkt : (k : Int) = t
      · have hs2 := HSU.out
        rw [decide_eq_true hkt] at hs2
        simp only [Bool.not_true, Bool.false_and, Bool.false_eq_true, if_false] at hs2
        have HS2 : Hid _ := hs2
        clear hs2 HSU
        subst hkt
        repeat' (first
    | (with_reducible apply run_seq)
    | (with_reducible apply run_block)
    | (with_reducible apply run_inBlock)
    | (with_reducible apply run_skip)
    | ((with_reducible apply run_go); simp only [go_sem, *])
    | ((with_reducible apply run_cond_t); (focus (simp only [go_sem, *]; done)))
    | ((with_reducible apply run_cond_f); (focus (simp only [go_sem, *]; done)))
    | ((with_reducible apply runO_alloc); (focus (simp only [go_sem, *]; rfl)); intro pb hpb; have hfb := Heap.ne_of_none hpb; (try simp only [Heap.set_none', stH_none] at hpb); (with_reducible apply runO_go); simp only [go_sem, *])
    | ((with_reducible apply runO_store); (focus (simp only [go_sem]; rfl)); (focus (simp only [go_sem, *]; rfl)); (focus (simp only [go_sem, *]; rfl)); (focus (simp only [go_sem, *]; done)); (focus (simp only [go_sem, *]; done)); (focus (simp only [go_sem, *]; done)); (with_reducible apply runO_go); simp only [go_sem, *, Heap.set_set])
    | ((with_reducible apply runO_skipF); (focus (simp only [go_sem, *]; rfl)); (focus rfl); (with_reducible apply runO_go); simp only [go_sem, *])
    | ((with_reducible apply runO_callF known59); simp only [go_sem, *]; refine (c2 _ (by (repeat (first | assumption | exact Heap.sub_refl _ | refine Heap.sub_congr ?_ | refine Heap.sub_set ?_ (by assumption) | refine Heap.sub_set2 ?_ (by first | assumption | (simp only [*]; done) | (simp only [Heap.set_none', stH_none, ne_eq, *, not_false_eq_true, and_self]; done)))); done)).use ?_; (with_reducible apply runO_go); simp only [go_sem, *]))
        refine run_drop (H' := Hb) (by (repeat (first | assumption | exact Heap.sub_refl _ | refine Heap.sub_congr ?_ | refine Heap.sub_set ?_ (by assumption) | refine Heap.sub_set2 ?_ (by first | assumption | (simp only [*]; done) | (simp only [Heap.set_none', stH_none, ne_eq, *, not_false_eq_true, and_self]; done)))); done) ?_
        refine IHb.out (8 - (k + 1)) _ _ (by omega) ⟨k + 1, by omega, rfl, (by simp only [go_sem, *]), (by simp only [go_sem, *]), (by simp only [go_sem, *]), (by simp only [go_sem, *]), (by simp only [go_sem, *]), (by simp only [go_sem, *]), (by simp only [go_sem, *]), ?_⟩
        rw [HS2.out]
        simp only [go_sem, *]
      · have hs2 := HSU.out
        rw [decide_eq_false hkt] at hs2
        have HS2 : Hid _ := hs2
        clear hs2 HSU
        cases b1 <;> cases b2 <;> cases b3 <;> cases b4 <;> (have hs2 := HS2.out; simp only [Bool.not_false, Bool.true_and, Bool.or_false, Bool.false_or, Bool.or_true, Bool.false_and, Bool.and_true, Bool.and_false, Bool.not_true, Bool.false_eq_true, if_false, if_true] at hs2; have HS3 : Hid _ := hs2; clear hs2 HS2)
        all_goals (repeat' (first
    | (with_reducible apply run_seq)
    | (with_reducible apply run_block)
    | (with_reducible apply run_inBlock)
    | (with_reducible apply run_skip)
    | ((with_reducible apply run_go); simp only [go_sem, *])
    | ((with_reducible apply run_cond_t); (focus (simp only [go_sem, *]; done)))
    | ((with_reducible apply run_cond_f); (focus (simp only [go_sem, *]; done)))
    | ((with_reducible apply runO_alloc); (focus (simp only [go_sem, *]; rfl)); intro pb hpb; have hfb := Heap.ne_of_none hpb; (try simp only [Heap.set_none', stH_none] at hpb); (with_reducible apply runO_go); simp only [go_sem, *])
    | ((with_reducible apply runO_store); (focus (simp only [go_sem]; rfl)); (focus (simp only [go_sem, *]; rfl)); (focus (simp only [go_sem, *]; rfl)); (focus (simp only [go_sem, *]; done)); (focus (simp only [go_sem, *]; done)); (focus (simp only [go_sem, *]; done)); (with_reducible apply runO_go); simp only [go_sem, *, Heap.set_set])
    | ((with_reducible apply runO_skipF); (focus (simp only [go_sem, *]; rfl)); (focus rfl); (with_reducible apply runO_go); simp only [go_sem, *])
    | ((with_reducible apply runO_callF known59); simp only [go_sem, *]; refine (c2 _ (by (repeat (first | assumption | exact Heap.sub_refl _ | refine Heap.sub_congr ?_ | refine Heap.sub_set ?_ (by assumption) | refine Heap.sub_set2 ?_ (by first | assumption | (simp only [*]; done) | (simp only [Heap.set_none', stH_none, ne_eq, *, not_false_eq_true, and_self]; done)))); done)).use ?_; (with_reducible apply runO_go); simp only [go_sem, *])
    | ((with_reducible apply runO_callFG known62); (focus (simp only [go_sem, *]; rfl)); (focus (intro _; simp only [go_sem, *]; exact c3 _)); (with_reducible apply runO_go); simp only [go_sem, *])
    | ((with_reducible apply runO_callFG known40); (focus (simp only [go_sem, *]; rfl)); (focus (intro _; simp only [go_sem, *]; exact c4 _)); (with_reducible apply runO_go); simp only [go_sem, *])
    | ((with_reducible apply runO_callFG known40); (focus (simp only [go_sem, *]; rfl)); (focus (intro _; simp only [go_sem, *]; exact c5 _)); (with_reducible apply runO_go); simp only [go_sem, *])
    | ((with_reducible apply runO_buildSlice); (focus (simp only [go_sem]; rfl)); (focus (simp only [go_sem]; rfl)); (focus (simp only [go_sem]; rfl)); (focus rfl); (focus rfl); (focus (simp only [go_sem, *]; done)); (focus (simp only [go_sem, *]; done)); (focus decide); (with_reducible apply runO_go); simp only [go_sem, *])))
        all_goals first
          | (refine run_drop (H' := Hb) (by (repeat (first | assumption | exact Heap.sub_refl _ | refine Heap.sub_congr ?_ | refine Heap.sub_set ?_ (by assumption) | refine Heap.sub_set2 ?_ (by first | assumption | (simp only [*]; done) | (simp only [Heap.set_none', stH_none, ne_eq, *, not_false_eq_true, and_self]; done)))); done) ?_; refine IHb.out (8 - (k + 1)) _ _ (by omega) ⟨k + 1, by omega, rfl, (by simp only [go_sem, *]), (by simp only [go_sem, *]), (by simp only [go_sem, *]), (by simp only [go_sem, *]), (by simp only [go_sem, *]), (by simp only [go_sem, *]), (by simp only [go_sem, *]), ?_⟩; rw [HS3.out]; simp only [go_sem, *]; done)
          | (refine runO_drop (H' := Hb) (by (repeat (first | assumption | exact Heap.sub_refl _ | refine Heap.sub_congr ?_ | refine Heap.sub_set ?_ (by assumption) | refine Heap.sub_set2 ?_ (by first | assumption | (simp only [*]; done) | (simp only [Heap.set_none', stH_none, ne_eq, *, not_false_eq_true, and_self]; done)))); done) ?_; (refine runO_coll (t := 41) Try.underlying41 sz3 by3 zr3 rfl (by simp only [go_sem, *]; exact cb) (by simp only [go_sem, *]; rfl) (intsC_all _) (by simp) (by (try simp only [List.length_range, List.length_map, List.length_take, List.length_cons, List.length_nil, List.length_append, go_sem]); omega) (by (try simp only [maxLen, List.length_range, List.length_map, List.length_take, List.length_cons, List.length_nil, List.length_append, go_sem]); omega) (fun d1 H1 hc1 => ?_); (with_reducible apply runO_go); simp only [go_sem, *]))
        all_goals (repeat' (first
    | (with_reducible apply run_inBlock)
    | ((with_reducible apply run_go); simp only [go_sem, *])))
        all_goals (refine IHb.out (8 - (k + 1)) _ _ (by omega) ⟨k + 1, by omega, rfl, (by simp only [go_sem, *]), (by simp only [go_sem, *]), (by simp only [go_sem, *]), (by simp only [go_sem, *]), (by simp only [go_sem, *]), (by simp only [go_sem, *]), (by simp only [go_sem, *]), ?_⟩; simp only [go_sem]; rw [HS3.out, intsC_snoc]; exact hc1)
    · obtain rfl : k = 8 := by omega
      have hsubHb : H.sub Hb := hsub9.trans hsub
      clear c1
      repeat' (first
    | (with_reducible apply run_seq)
    | (with_reducible apply run_exit rfl)
    | ((with_reducible apply run_go); simp only [go_sem, *])
    | ((with_reducible apply run_cond_f); (focus (simp only [go_sem, *]; done)))
    | ((with_reducible apply run_ret Try.func46 res46 (H' := H)); (focus (simp only [go_sem, *]; rfl)); (focus trivial); (focus (repeat (first | assumption | exact Heap.sub_refl _ | refine Heap.sub_congr ?_ | refine Heap.sub_set ?_ (by assumption) | refine Heap.sub_set2 ?_ (by first | assumption | (simp only [*]; done) | (simp only [Heap.set_none', stH_none, ne_eq, *, not_false_eq_true, and_self]; done)))))))
      exact ⟨rfl, rfl⟩
theorem rNilChild_call (W : World) (H : Heap) (sa ea : List Int) (t : Int) :
    CallA Try.prog W 46 [.v (.pointer none), .list (intsC sa), .list (intsC ea), .v (.int .i64 t)] H fun r H' => r = .list [] ∧ H' = H := by
  refine call_in Try.func46 rfl Try.ntmps46 (by simp) ?_
  repeat' (first
    | (with_reducible apply run_seq)
    | ((with_reducible apply run_go); simp only [go_sem, *])
    | ((with_reducible apply run_cond_t); (focus (simp only [go_sem, *]; done)))
    | ((with_reducible apply run_ret Try.func46 res46 (H' := H)); (focus (simp only [go_sem, *]; rfl)); (focus trivial); (focus (repeat (first | assumption | exact Heap.sub_refl _ | refine Heap.sub_congr ?_ | refine Heap.sub_set ?_ (by assumption) | refine Heap.sub_set2 ?_ (by first | assumption | (simp only [*]; done) | (simp only [Heap.set_none', stH_none, ne_eq, *, not_false_eq_true, and_self]; done)))))))
  exact ⟨rfl, rfl⟩
end Go.Proofs.Ytcfeklnmampndaa
