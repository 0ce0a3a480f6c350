/-
  Contracts: who sleeps behind a step, and whether all sleep.
-/
import Derived.Test.YtcfeklnmampndaaSlC
import Derived.Test.YtcfeklnmampndaaStV
set_option linter.unusedSimpArgs false
set_option linter.unusedVariables false
namespace Go.Proofs.Ytcfeklnmampndaa
open Go Go.Sn Go.RowKit
-- NONE stH_none

/-- Has it something to do, that does not depend on what another one does next? -/
def okC (s : St) (t u : Int) : Bool := s.has u && !depE (s.nxt u) (s.nxt t)
def chK (s : St) (t : Int) (l : List Int) : BitVec 8 := l.foldl (fun c u => if okC s t u then c ||| bitE u else c) 0#8
/-- Who sleeps behind a step. -/
def chE (s : St) (sa ea : BitVec 8) (t : Int) : BitVec 8 := if s.has t then chK s t (allB ((sa ||| ea) &&& ~~~ bitE t) 8) else 0#8
theorem chK_snoc (s : St) (t : Int) (l : List Int) (u : Int) : chK s t (l ++ [u]) = if okC s t u then chK s t l ||| bitE u else chK s t l := by unfold chK; rw [List.foldl_append]; rfl
theorem chK_take (s : St) (t : Int) {l : List Int} {k : Nat} (h : k < l.length) : chK s t (l.take (k + 1)) = if okC s t (l.getD k default) then chK s t (l.take k) ||| bitE (l.getD k default) else chK s t (l.take k) := by
  rw [take_succ_getD _ _ h, chK_snoc]

set_option maxHeartbeats 8000000 in
theorem child_call (W : World) (H : Heap) (l : Lo) (s : St) (h : AtP H l s) (hs : OkSt s) (sa ea : BitVec 8) (t : Int) :
    CallA Try.prog W 44 [.v (.pointer (some ⟨l.b, 0, none⟩)), .v (.int .u8 (sa.toNat : Int)), .v (.int .u8 (ea.toNat : Int)), .v (.int .i64 t)] H fun r H' => r = .v (.int .u8 ((chE s sa ea t).toNat : Int)) ∧ H' = H := by
  refine call_in Try.func44 rfl Try.ntmps44 (by simp) ?_
  have c1 := fun H' (hk : H.sub H') (u : Int) => mNext_call W (h.mono hk) u hs
  have c2 := fun H => setUnion_call W H sa ea
  have c3 := fun H => setWithout_call W H (sa ||| ea) t
  have c4 := fun H => setAll_call W H ((sa ||| ea) &&& ~~~ bitE t)
  clear h hs
  cases hh : s.has t with
  | false =>
    have hE : chE s sa ea t = 0#8 := by unfold chE; rw [hh]; rfl
    have c5 := fun H' (hk : H.sub H') => c1 H' hk t
    rw [hh] at c5
    rw [hE]
    repeat' (first
    | (with_reducible apply run_seq)
    | ((with_reducible apply run_go); simp only [go_sem, *])
    | ((with_reducible apply run_cond_t); (focus (simp only [go_sem, *]; done)))
    | ((with_reducible apply runO_alloc); (focus (simp only [go_sem, *]; rfl)); intro pb hpb; have hfb := Heap.ne_of_none hpb; (try simp only [Heap.set_none', stH_none] at hpb); (with_reducible apply runO_go); simp only [go_sem, *])
    | ((with_reducible apply runO_store); (focus (simp only [go_sem]; rfl)); (focus (simp only [go_sem, *]; rfl)); (focus (simp only [go_sem, *]; rfl)); (focus (simp only [go_sem, *]; done)); (focus (simp only [go_sem, *]; done)); (focus (simp only [go_sem, *]; done)); (with_reducible apply runO_go); simp only [go_sem, *, Heap.set_set])
    | ((with_reducible apply runO_callF known52); simp only [go_sem, *]; refine (c5 _ (by (repeat (first | assumption | exact Heap.sub_refl _ | refine Heap.sub_congr ?_ | refine Heap.sub_set ?_ (by assumption) | refine Heap.sub_set2 ?_ (by first | assumption | (simp only [*]; done) | (simp only [Heap.set_none', stH_none, ne_eq, *, not_false_eq_true, and_self]; done)))); done)).use ?_; (with_reducible apply runO_go); simp only [go_sem, *])
    | ((with_reducible apply run_ret Try.func44 res44 (H' := H)); (focus (simp only [go_sem, *]; rfl)); (focus trivial); (focus (repeat (first | assumption | exact Heap.sub_refl _ | refine Heap.sub_congr ?_ | refine Heap.sub_set ?_ (by assumption) | refine Heap.sub_set2 ?_ (by first | assumption | (simp only [*]; done) | (simp only [Heap.set_none', stH_none, ne_eq, *, not_false_eq_true, and_self]; done)))))))
    exact ⟨rfl, rfl⟩
  | true =>
    have hE : chE s sa ea t = chK s t (allB ((sa ||| ea) &&& ~~~ bitE t) 8) := by unfold chE; rw [hh]; rfl
    have hl8 := allB_len ((sa ||| ea) &&& ~~~ bitE t) 8
    have c5 := fun H' (hk : H.sub H') => c1 H' hk t
    rw [hh] at c5
    rw [hE]
    clear hE hh
    generalize allB ((sa ||| ea) &&& ~~~ bitE t) 8 = M at *
    repeat' (first
    | (with_reducible apply run_seq)
    | (with_reducible apply run_block)
    | (with_reducible apply run_skip)
    | ((with_reducible apply run_go); simp only [go_sem, *])
    | ((with_reducible apply run_cond_f); (focus (simp only [go_sem, *]; done)))
    | ((with_reducible apply runO_alloc); (focus (simp only [go_sem, *]; rfl)); intro pb hpb; have hfb := Heap.ne_of_none hpb; (try simp only [Heap.set_none', stH_none] at hpb); (with_reducible apply runO_go); simp only [go_sem, *])
    | ((with_reducible apply runO_store); (focus (simp only [go_sem]; rfl)); (focus (simp only [go_sem, *]; rfl)); (focus (simp only [go_sem, *]; rfl)); (focus (simp only [go_sem, *]; done)); (focus (simp only [go_sem, *]; done)); (focus (simp only [go_sem, *]; done)); (with_reducible apply runO_go); simp only [go_sem, *, Heap.set_set])
    | ((with_reducible apply runO_callF known52); simp only [go_sem, *]; refine (c5 _ (by (repeat (first | assumption | exact Heap.sub_refl _ | refine Heap.sub_congr ?_ | refine Heap.sub_set ?_ (by assumption) | refine Heap.sub_set2 ?_ (by first | assumption | (simp only [*]; done) | (simp only [Heap.set_none', stH_none, ne_eq, *, not_false_eq_true, and_self]; done)))); done)).use ?_; (with_reducible apply runO_go); simp only [go_sem, *])
    | ((with_reducible apply runO_callF known41); simp only [go_sem, *]; refine (c2 _).use ?_; (with_reducible apply runO_go); simp only [go_sem, *])
    | ((with_reducible apply runO_callF known60); simp only [go_sem, *]; refine (c3 _).use ?_; (with_reducible apply runO_go); simp only [go_sem, *])
    | ((with_reducible apply runO_callF known20); simp only [go_sem, *]; refine (c4 _).use ?_; (with_reducible apply runO_go); simp only [go_sem, *]))
    generalize pb = p9 at *
    have hsub9 : H.sub (H.set p9 (.cells (evC (s.nxt t)) 110)) := Heap.sub_set (Heap.sub_refl _) hpb
    clear hfb c2 c3 c4 c5
    refine run_loop (fun na ea Ha => ∃ (k : Nat), k ≤ M.length ∧ na = M.length - k ∧ ea 0 = .v (.pointer (some ⟨l.b, 0, none⟩)) ∧ ea 8 = .v (.int .u8 ((chK s t (M.take k)).toNat : Int)) ∧ ea 9 = .v (.pointer (some ⟨p9, 0, none⟩)) ∧ ea 28 = .list (intsC M) ∧ ea 29 = .v (.int .i64 (M.length : Int)) ∧ ea 30 = .v (.int .i64 (k : Int)) ∧ H.set p9 (.cells (evC (s.nxt t)) 110) = Ha) (M.length)
        ⟨0, Nat.zero_le _, rfl, (by simp only [go_sem, *]), (by simp only [go_sem] <;> rfl), (by simp only [go_sem, *]), (by simp only [go_sem, *]), (by simp only [go_sem, *]), (by simp only [go_sem] <;> rfl), rfl⟩ ?_
    rintro na ea Ha ih ⟨k, ak, rfl, as0, as8, as9, as28, as29, as30, rfl⟩
    have IHa : Hid _ := ih
    clear ih
    by_cases hlt : k < M.length
    · have hw := wrap_succ (k := k) (by omega)
      have hsu := chK_take s t hlt
      generalize hu : M.getD k default = u at *
      have c2 := fun H' (hk : H.sub H') => c1 H' hk u
      have c3 := fun H => dep_call W H (s.nxt u) (s.nxt t)
      have c4 := fun H c => setWith_call W H c u
      cases hh : s.has u with
      | false =>
        have ho : okC s t u = false := by unfold okC; rw [hh]; rfl
        rw [ho] at hsu
        rw [hh] at c2
        simp only [Bool.false_eq_true, if_false] at hsu
        generalize chK s t (M.take k) = cc at *
        clear c1 c4 c3
        repeat' (first
    | (with_reducible apply run_seq)
    | (with_reducible apply run_block)
    | (with_reducible apply run_inBlock)
    | (with_reducible apply run_skip)
    | ((with_reducible apply run_go); simp only [go_sem, *])
    | ((with_reducible apply run_cond_t); (focus (simp only [go_sem, *]; done)))
    | ((with_reducible apply run_cond_f); (focus (simp only [go_sem, *]; done)))
    | ((with_reducible apply runO_alloc); (focus (simp only [go_sem, *]; rfl)); intro pb hpb; have hfb := Heap.ne_of_none hpb; (try simp only [Heap.set_none', stH_none] at hpb); (with_reducible apply runO_go); simp only [go_sem, *])
    | ((with_reducible apply runO_store); (focus (simp only [go_sem]; rfl)); (focus (simp only [go_sem, *]; rfl)); (focus (simp only [go_sem, *]; rfl)); (focus (simp only [go_sem, *]; done)); (focus (simp only [go_sem, *]; done)); (focus (simp only [go_sem, *]; done)); (with_reducible apply runO_go); simp only [go_sem, *, Heap.set_set])
    | ((with_reducible apply runO_skipF); (focus (simp only [go_sem, *]; rfl)); (focus rfl); (with_reducible apply runO_go); simp only [go_sem, *])
    | ((with_reducible apply runO_callF known52); simp only [go_sem, *]; refine (c2 _ (by (repeat (first | assumption | exact Heap.sub_refl _ | refine Heap.sub_congr ?_ | refine Heap.sub_set ?_ (by assumption) | refine Heap.sub_set2 ?_ (by first | assumption | (simp only [*]; done) | (simp only [Heap.set_none', stH_none, ne_eq, *, not_false_eq_true, and_self]; done)))); done)).use ?_; (with_reducible apply runO_go); simp only [go_sem, *]))
        refine run_drop (H' := H.set p9 (.cells (evC (s.nxt t)) 110)) (by (repeat (first | assumption | exact Heap.sub_refl _ | refine Heap.sub_congr ?_ | refine Heap.sub_set ?_ (by assumption) | refine Heap.sub_set2 ?_ (by first | assumption | (simp only [*]; done) | (simp only [Heap.set_none', stH_none, ne_eq, *, not_false_eq_true, and_self]; done)))); done) ?_
        refine IHa.out (M.length - (k + 1)) _ _ (by omega) ⟨k + 1, by omega, rfl, (by simp only [go_sem, *]), (by first | (simp only [go_sem, *]; done) | (simp only [go_sem, *]; rfl)), (by simp only [go_sem, *]), (by simp only [go_sem, *]), (by simp only [go_sem, *]), (by simp only [go_sem, *]), rfl⟩
      | true =>
        rw [hh] at c2
        cases hd : depE (s.nxt u) (s.nxt t) with
        | true =>
          have ho : okC s t u = false := by unfold okC; rw [hh, hd]; rfl
          rw [ho] at hsu
          rw [hd] at c3
          simp only [Bool.false_eq_true, if_false] at hsu
          generalize chK s t (M.take k) = cc at *
          clear c1 c4
          repeat' (first
    | (with_reducible apply run_seq)
    | (with_reducible apply run_block)
    | (with_reducible apply run_inBlock)
    | (with_reducible apply run_skip)
    | ((with_reducible apply run_go); simp only [go_sem, *])
    | ((with_reducible apply run_cond_t); (focus (simp only [go_sem, *]; done)))
    | ((with_reducible apply run_cond_f); (focus (simp only [go_sem, *]; done)))
    | ((with_reducible apply runO_alloc); (focus (simp only [go_sem, *]; rfl)); intro pb hpb; have hfb := Heap.ne_of_none hpb; (try simp only [Heap.set_none', stH_none] at hpb); (with_reducible apply runO_go); simp only [go_sem, *])
    | ((with_reducible apply runO_store); (focus (simp only [go_sem]; rfl)); (focus (simp only [go_sem, *]; rfl)); (focus (simp only [go_sem, *]; rfl)); (focus (simp only [go_sem, *]; done)); (focus (simp only [go_sem, *]; done)); (focus (simp only [go_sem, *]; done)); (with_reducible apply runO_go); simp only [go_sem, *, Heap.set_set])
    | ((with_reducible apply runO_callF known52); simp only [go_sem, *]; refine (c2 _ (by (repeat (first | assumption | exact Heap.sub_refl _ | refine Heap.sub_congr ?_ | refine Heap.sub_set ?_ (by assumption) | refine Heap.sub_set2 ?_ (by first | assumption | (simp only [*]; done) | (simp only [Heap.set_none', stH_none, ne_eq, *, not_false_eq_true, and_self]; done)))); done)).use ?_; (with_reducible apply runO_go); simp only [go_sem, *])
    | ((with_reducible apply runO_callFG known61); (focus (simp only [go_sem, *]; rfl)); (focus (intro _; simp only [go_sem, *]; exact c3 _)); (with_reducible apply runO_go); simp only [go_sem, *]))
          refine run_drop (H' := H.set p9 (.cells (evC (s.nxt t)) 110)) (by (repeat (first | assumption | exact Heap.sub_refl _ | refine Heap.sub_congr ?_ | refine Heap.sub_set ?_ (by assumption) | refine Heap.sub_set2 ?_ (by first | assumption | (simp only [*]; done) | (simp only [Heap.set_none', stH_none, ne_eq, *, not_false_eq_true, and_self]; done)))); done) ?_
          refine IHa.out (M.length - (k + 1)) _ _ (by omega) ⟨k + 1, by omega, rfl, (by simp only [go_sem, *]), (by first | (simp only [go_sem, *]; done) | (simp only [go_sem, *]; rfl)), (by simp only [go_sem, *]), (by simp only [go_sem, *]), (by simp only [go_sem, *]), (by simp only [go_sem, *]), rfl⟩
        | false =>
          have ho : okC s t u = true := by unfold okC; rw [hh, hd]; rfl
          rw [ho, if_pos rfl] at hsu
          rw [hd] at c3
          generalize chK s t (M.take k) = cc at *
          clear c1
          repeat' (first
    | (with_reducible apply run_seq)
    | (with_reducible apply run_block)
    | (with_reducible apply run_inBlock)
    | (with_reducible apply run_skip)
    | ((with_reducible apply run_go); simp only [go_sem, *])
    | ((with_reducible apply run_cond_t); (focus (simp only [go_sem, *]; done)))
    | ((with_reducible apply runO_alloc); (focus (simp only [go_sem, *]; rfl)); intro pb hpb; have hfb := Heap.ne_of_none hpb; (try simp only [Heap.set_none', stH_none] at hpb); (with_reducible apply runO_go); simp only [go_sem, *])
    | ((with_reducible apply runO_store); (focus (simp only [go_sem]; rfl)); (focus (simp only [go_sem, *]; rfl)); (focus (simp only [go_sem, *]; rfl)); (focus (simp only [go_sem, *]; done)); (focus (simp only [go_sem, *]; done)); (focus (simp only [go_sem, *]; done)); (with_reducible apply runO_go); simp only [go_sem, *, Heap.set_set])
    | ((with_reducible apply runO_callF known52); simp only [go_sem, *]; refine (c2 _ (by (repeat (first | assumption | exact Heap.sub_refl _ | refine Heap.sub_congr ?_ | refine Heap.sub_set ?_ (by assumption) | refine Heap.sub_set2 ?_ (by first | assumption | (simp only [*]; done) | (simp only [Heap.set_none', stH_none, ne_eq, *, not_false_eq_true, and_self]; done)))); done)).use ?_; (with_reducible apply runO_go); simp only [go_sem, *])
    | ((with_reducible apply runO_callFG known61); (focus (simp only [go_sem, *]; rfl)); (focus (intro _; simp only [go_sem, *]; exact c3 _)); (with_reducible apply runO_go); simp only [go_sem, *])
    | ((with_reducible apply runO_callF known45); simp only [go_sem, *]; refine (c4 _ _).use ?_; (with_reducible apply runO_go); simp only [go_sem, *]))
          refine run_drop (H' := H.set p9 (.cells (evC (s.nxt t)) 110)) (by (repeat (first | assumption | exact Heap.sub_refl _ | refine Heap.sub_congr ?_ | refine Heap.sub_set ?_ (by assumption) | refine Heap.sub_set2 ?_ (by first | assumption | (simp only [*]; done) | (simp only [Heap.set_none', stH_none, ne_eq, *, not_false_eq_true, and_self]; done)))); done) ?_
          refine IHa.out (M.length - (k + 1)) _ _ (by omega) ⟨k + 1, by omega, rfl, (by simp only [go_sem, *]), (by first | (simp only [go_sem, *]; done) | (simp only [go_sem, *]; rfl)), (by simp only [go_sem, *]), (by simp only [go_sem, *]), (by simp only [go_sem, *]), (by simp only [go_sem, *]), rfl⟩
    · obtain rfl : k = M.length := by omega
      rw [List.take_length] at as8
      repeat' (first
    | (with_reducible apply run_seq)
    | (with_reducible apply run_exit rfl)
    | ((with_reducible apply run_go); simp only [go_sem, *])
    | ((with_reducible apply run_cond_f); (focus (simp only [go_sem, *]; done)))
    | ((with_reducible apply run_ret Try.func44 res44 (H' := H)); (focus (simp only [go_sem, *]; rfl)); (focus trivial); (focus (repeat (first | assumption | exact Heap.sub_refl _ | refine Heap.sub_congr ?_ | refine Heap.sub_set ?_ (by assumption) | refine Heap.sub_set2 ?_ (by first | assumption | (simp only [*]; done) | (simp only [Heap.set_none', stH_none, ne_eq, *, not_false_eq_true, and_self]; done)))))))
      exact ⟨rfl, rfl⟩

theorem nilChild_call (W : World) (H : Heap) (sa ea : BitVec 8) (t : Int) :
    CallA Try.prog W 44 [.v (.pointer none), .v (.int .u8 (sa.toNat : Int)), .v (.int .u8 (ea.toNat : Int)), .v (.int .i64 t)] H fun r H' => r = .v (.int .u8 ((0#8).toNat : Int)) ∧ H' = H := by
  refine call_in Try.func44 rfl Try.ntmps44 (by simp) ?_
  have c1 := fun H => nilNext_call W H t
  repeat' (first
    | (with_reducible apply run_seq)
    | ((with_reducible apply run_go); simp only [go_sem, *])
    | ((with_reducible apply run_cond_t); (focus (simp only [go_sem, *]; done)))
    | ((with_reducible apply runO_alloc); (focus (simp only [go_sem, *]; rfl)); intro pb hpb; have hfb := Heap.ne_of_none hpb; (try simp only [Heap.set_none', stH_none] at hpb); (with_reducible apply runO_go); simp only [go_sem, *])
    | ((with_reducible apply runO_store); (focus (simp only [go_sem]; rfl)); (focus (simp only [go_sem, *]; rfl)); (focus (simp only [go_sem, *]; rfl)); (focus (simp only [go_sem, *]; done)); (focus (simp only [go_sem, *]; done)); (focus (simp only [go_sem, *]; done)); (with_reducible apply runO_go); simp only [go_sem, *, Heap.set_set])
    | ((with_reducible apply runO_callF known52); simp only [go_sem, *]; refine (c1 _).use ?_; (with_reducible apply runO_go); simp only [go_sem, *])
    | ((with_reducible apply run_ret Try.func44 res44 (H' := H)); (focus (simp only [go_sem, *]; rfl)); (focus trivial); (focus (repeat (first | assumption | exact Heap.sub_refl _ | refine Heap.sub_congr ?_ | refine Heap.sub_set ?_ (by assumption) | refine Heap.sub_set2 ?_ (by first | assumption | (simp only [*]; done) | (simp only [Heap.set_none', stH_none, ne_eq, *, not_false_eq_true, and_self]; done)))))))
  exact ⟨rfl, rfl⟩
end Go.Proofs.Ytcfeklnmampndaa
