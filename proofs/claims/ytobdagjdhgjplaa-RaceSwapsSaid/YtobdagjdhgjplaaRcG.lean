/-
  Contracts: the races of a row with what threads do next.
-/
import Derived.Test.YtobdagjdhgjplaaRcF
import Derived.Test.YtobdagjdhgjplaaRcE
import Derived.Test.YtobdagjdhgjplaaStR
import Derived.Test.YtobdagjdhgjplaaStX
set_option linter.unusedSimpArgs false
set_option linter.unusedVariables false
namespace Go.Proofs.Ytobdagjdhgjplaa
open Go Go.Sn Go.RowKit
-- NONE stH_none

def rsS (s : St) (l : List Ev) (k : Nat) : List Rc := (List.range k).flatMap fun t : Nat => if s.has (t : Int) then racP l (s.nxt (t : Int)) else []
def rsE (s : St) (l : List Ev) : List Rc := if l.all rightR then rsS s l s.ts.length else []
theorem rsS_succ (s : St) (l : List Ev) (k : Nat) : rsS s l (k + 1) = rsS s l k ++ if s.has (k : Int) then racP l (s.nxt (k : Int)) else [] := by
  unfold rsS
  rw [List.range_succ, List.flatMap_append]
  simp
theorem rsS_len (s : St) (l : List Ev) : ∀ k, (rsS s l k).length ≤ k * l.length
  | 0 => by simp [rsS]
  | k + 1 => by
    have h1 := rsS_len s l k
    have h2 := racP_len l (s.nxt (k : Int))
    rw [rsS_succ, List.length_append, Nat.add_mul]
    split
    · omega
    · simp; omega
theorem rsS_le (s : St) (l : List Ev) {k : Nat} (hk : k ≤ 4) (hl : l.length ≤ 1000) : (rsS s l k).length ≤ 4000 := by
  have h1 := rsS_len s l k
  have h2 : k * l.length ≤ 4 * 1000 := Nat.mul_le_mul hk hl
  omega

set_option maxRecDepth 100000 in
set_option maxHeartbeats 16000000 in
theorem races_call (W : World) (H : Heap) (lo : Lo) (s : St) (h : AtP H lo s) (hs : OkSt s) (l : List Ev) (hl : l.length ≤ 1000) :
    CallA Try.prog W 41 [.v (.pointer (some ⟨lo.b, 0, none⟩)), .list (evsC l)] H fun r H' => r = .list (rcsC (rsE s l)) ∧ H' = H := by
  refine call_in Try.func41 rfl Try.ntmps41 (by simp) ?_
  have c1 := fun H => rightsQ_call W H l (by omega)
  have c3 := mThreads_call W h
  have c4 := fun H' (hk : H.sub H') (t : Int) => mNext_call W (h.mono hk) t hs
  have hn4 := (ok_len hs).1
  clear h hs
  unfold rsE
  by_cases hR : l.all rightR = true
  · rw [if_pos hR]
    rw [hR] at c1
    repeat' (first
    | (with_reducible apply run_seq)
    | (with_reducible apply run_block)
    | (with_reducible apply run_skip)
    | ((with_reducible apply run_go); simp only [go_sem, *])
    | ((with_reducible apply run_cond_f); (focus (simp only [go_sem, *]; done)))
    | ((with_reducible apply runO_callF known59); simp only [go_sem, *]; refine (c1 _).use ?_; (with_reducible apply runO_go); simp only [go_sem, *])
    | ((with_reducible apply runO_callF known30); simp only [go_sem, *]; refine (c3).use ?_; (with_reducible apply runO_go); simp only [go_sem, *]))
    clear c1 c3
    refine run_loop (fun na ea Ha => ∃ (k : Nat), k ≤ s.ts.length ∧ na = s.ts.length - k ∧ ea 0 = .v (.pointer (some ⟨lo.b, 0, none⟩)) ∧ ea 1 = .list (evsC l) ∧ ea 12 = .v (.int .i64 (s.ts.length : Int)) ∧ ea 13 = .v (.int .i64 (k : Int)) ∧ Coll (H) (74) (2) (rcsC (rsS s l k)) (ea 4) Ha) (s.ts.length)
        ⟨0, Nat.zero_le _, rfl, (by simp only [go_sem, *]), (by simp only [go_sem, *]), (by simp only [go_sem, *]), (by simp only [go_sem] <;> rfl), (by simp only [go_sem]; exact .none rfl)⟩ ?_
    rintro na ea Ha ih ⟨k, ak, rfl, as0, as1, as12, as13, ca⟩
    generalize hac : ea 4 = da at ca
    have IHa : Hid _ := ih
    clear ih
    have hsub := ca.sub
    have hfl := ca.flat
    by_cases hlt : k < s.ts.length
    · have hw := wrap_succ (k := k) (by omega)
      have hsu := rsS_succ s l k
      have hb := rsS_le s l (k := k) (by omega) hl
      have c5 := fun H' hk => c4 H' hk (k : Int)
      have c2 := fun H => with_call W H l (s.nxt (k : Int)) hR (by omega)
      have hb2 := racP_len l (s.nxt (k : Int))
      cases hh : s.has (k : Int) with
      | false =>
        rw [hh] at c5 hsu
        simp only [Bool.false_eq_true, if_false, List.append_nil] at hsu
        have HSU : Hid _ := hsu
        clear hsu c4
        repeat' (first
    | (with_reducible apply run_seq)
    | (with_reducible apply run_block)
    | (with_reducible apply run_inBlock)
    | (with_reducible apply run_skip)
    | ((with_reducible apply run_go); simp only [go_sem, *])
    | ((with_reducible apply run_cond_t); (focus (simp only [go_sem, *]; done)))
    | ((with_reducible apply run_cond_f); (focus (simp only [go_sem, *]; done)))
    | ((with_reducible apply runO_alloc); (focus (simp only [go_sem, *]; rfl)); intro pb hpb; have hfb := Heap.ne_of_none hpb; (try simp only [Heap.set_none', stH_none] at hpb); (with_reducible apply runO_go); simp only [go_sem, *])
    | ((with_reducible apply runO_store); (focus (simp only [go_sem]; rfl)); (focus (simp only [go_sem, *]; rfl)); (focus (simp only [go_sem, *]; rfl)); (focus (simp only [go_sem, *]; done)); (focus (simp only [go_sem, *]; done)); (focus (simp only [go_sem, *]; done)); (with_reducible apply runO_go); simp only [go_sem, *, Heap.set_set])
    | ((with_reducible apply runO_callF known31); simp only [go_sem, *]; refine (c5 _ (by (repeat (first | assumption | exact Heap.sub_refl _ | refine Heap.sub_congr ?_ | refine Heap.sub_set ?_ (by assumption) | refine Heap.sub_set2 ?_ (by first | assumption | (simp only [*]; done) | (simp only [Heap.set_none', stH_none, ne_eq, *, not_false_eq_true, and_self]; done)))); done)).use ?_; (with_reducible apply runO_go); simp only [go_sem, *]))
        refine run_drop (H' := Ha) (by (repeat (first | assumption | exact Heap.sub_refl _ | refine Heap.sub_congr ?_ | refine Heap.sub_set ?_ (by assumption) | refine Heap.sub_set2 ?_ (by first | assumption | (simp only [*]; done) | (simp only [Heap.set_none', stH_none, ne_eq, *, not_false_eq_true, and_self]; done)))); done) ?_
        refine IHa.out (s.ts.length - (k + 1)) _ _ (by omega) ⟨k + 1, by omega, rfl, (by simp only [go_sem, *]), (by simp only [go_sem, *]), (by simp only [go_sem, *]), (by simp only [go_sem, *]), ?_⟩
        rw [HSU.out]
        simp only [go_sem, *]
      | true =>
        rw [hh] at c5 hsu
        rw [if_pos rfl] at hsu
        have HSU : Hid _ := hsu
        clear hsu c4
        repeat' (first
    | (with_reducible apply run_seq)
    | (with_reducible apply run_block)
    | (with_reducible apply run_skip)
    | ((with_reducible apply run_go); simp only [go_sem, *])
    | ((with_reducible apply run_cond_t); (focus (simp only [go_sem, *]; done)))
    | ((with_reducible apply runO_alloc); (focus (simp only [go_sem, *]; rfl)); intro pb hpb; have hfb := Heap.ne_of_none hpb; (try simp only [Heap.set_none', stH_none] at hpb); (with_reducible apply runO_go); simp only [go_sem, *])
    | ((with_reducible apply runO_store); (focus (simp only [go_sem]; rfl)); (focus (simp only [go_sem, *]; rfl)); (focus (simp only [go_sem, *]; rfl)); (focus (simp only [go_sem, *]; done)); (focus (simp only [go_sem, *]; done)); (focus (simp only [go_sem, *]; done)); (with_reducible apply runO_go); simp only [go_sem, *, Heap.set_set])
    | ((with_reducible apply runO_callF known31); simp only [go_sem, *]; refine (c5 _ (by (repeat (first | assumption | exact Heap.sub_refl _ | refine Heap.sub_congr ?_ | refine Heap.sub_set ?_ (by assumption) | refine Heap.sub_set2 ?_ (by first | assumption | (simp only [*]; done) | (simp only [Heap.set_none', stH_none, ne_eq, *, not_false_eq_true, and_self]; done)))); done)).use ?_; (with_reducible apply runO_go); simp only [go_sem, *])
    | ((with_reducible apply runO_callF known60); simp only [go_sem, *]; refine (c2 _).use ?_; (with_reducible apply runO_go); simp only [go_sem, *]))
        refine runO_drop (H' := Ha) (by (repeat (first | assumption | exact Heap.sub_refl _ | refine Heap.sub_congr ?_ | refine Heap.sub_set ?_ (by assumption) | refine Heap.sub_set2 ?_ (by first | assumption | (simp only [*]; done) | (simp only [Heap.set_none', stH_none, ne_eq, *, not_false_eq_true, and_self]; done)))); done) ?_
        (refine runO_coll (t := 66) Try.underlying66 sz74 by74 zr74 rfl (by simp only [go_sem, *]; exact ca) (by simp only [go_sem, *]; rfl) (rcsC_all _) (rcsC_all _) (by (try simp only [List.length_range, List.length_map, List.length_take, List.length_cons, List.length_nil, List.length_append, go_sem]); omega) (by (try simp only [maxLen, List.length_range, List.length_map, List.length_take, List.length_cons, List.length_nil, List.length_append, go_sem]); omega) (fun d1 H1 hc1 => ?_); (with_reducible apply runO_go); simp only [go_sem, *])
        repeat' (first
    | (with_reducible apply run_inBlock)
    | ((with_reducible apply run_go); simp only [go_sem, *]))
        refine IHa.out (s.ts.length - (k + 1)) _ _ (by omega) ⟨k + 1, by omega, rfl, (by simp only [go_sem, *]), (by simp only [go_sem, *]), (by simp only [go_sem, *]), (by simp only [go_sem, *]), ?_⟩
        simp only [go_sem]
        rw [HSU.out, rcsC_app]
        exact hc1
    · obtain rfl : k = s.ts.length := by omega
      clear c4
      repeat' (first
    | (with_reducible apply run_seq)
    | (with_reducible apply run_exit rfl)
    | ((with_reducible apply run_go); simp only [go_sem, *])
    | ((with_reducible apply run_cond_f); (focus (simp only [go_sem, *]; done)))
    | ((with_reducible apply run_ret Try.func41 res41 (H' := H)); (focus (simp only [go_sem, *]; rfl)); (focus trivial); (focus (repeat (first | assumption | exact Heap.sub_refl _ | refine Heap.sub_congr ?_ | refine Heap.sub_set ?_ (by assumption) | refine Heap.sub_set2 ?_ (by first | assumption | (simp only [*]; done) | (simp only [Heap.set_none', stH_none, ne_eq, *, not_false_eq_true, and_self]; done)))))))
      exact ⟨rfl, rfl⟩
  · rw [if_neg hR]
    rw [Bool.not_eq_true] at hR
    rw [hR] at c1
    repeat' (first
    | (with_reducible apply run_seq)
    | ((with_reducible apply run_go); simp only [go_sem, *])
    | ((with_reducible apply run_cond_t); (focus (simp only [go_sem, *]; done)))
    | ((with_reducible apply runO_callF known59); simp only [go_sem, *]; refine (c1 _).use ?_; (with_reducible apply runO_go); simp only [go_sem, *])
    | ((with_reducible apply run_ret Try.func41 res41 (H' := H)); (focus (simp only [go_sem, *]; rfl)); (focus trivial); (focus (repeat (first | assumption | exact Heap.sub_refl _ | refine Heap.sub_congr ?_ | refine Heap.sub_set ?_ (by assumption) | refine Heap.sub_set2 ?_ (by first | assumption | (simp only [*]; done) | (simp only [Heap.set_none', stH_none, ne_eq, *, not_false_eq_true, and_self]; done)))))))
    exact ⟨rfl, rfl⟩
theorem nilRaces_call (W : World) (H : Heap) (l : List Ev) (hl : l.length ≤ 1000) :
    CallA Try.prog W 41 [.v (.pointer none), .list (evsC l)] H fun r H' => r = .list [] ∧ H' = H := by
  refine call_in Try.func41 rfl Try.ntmps41 (by simp) ?_
  have c1 := fun H => rightsQ_call W H l (by omega)
  have c3 := fun H => nilThreads_call W H
  cases hR : l.all rightR with
  | true =>
    rw [hR] at c1
    repeat' (first
    | (with_reducible apply run_seq)
    | (with_reducible apply run_block)
    | (with_reducible apply run_skip)
    | ((with_reducible apply run_go); simp only [go_sem, *])
    | ((with_reducible apply run_cond_f); (focus (simp only [go_sem, *]; done)))
    | ((with_reducible apply runO_callF known59); simp only [go_sem, *]; refine (c1 _).use ?_; (with_reducible apply runO_go); simp only [go_sem, *])
    | ((with_reducible apply runO_callF known30); simp only [go_sem, *]; refine (c3 _).use ?_; (with_reducible apply runO_go); simp only [go_sem, *]))
    refine run_loop1 ?_
    repeat' (first
    | (with_reducible apply run_seq)
    | (with_reducible apply run_exit rfl)
    | ((with_reducible apply run_go); simp only [go_sem, *])
    | ((with_reducible apply run_cond_f); (focus (simp only [go_sem, *]; done)))
    | ((with_reducible apply run_ret Try.func41 res41 (H' := H)); (focus (simp only [go_sem, *]; rfl)); (focus trivial); (focus (repeat (first | assumption | exact Heap.sub_refl _ | refine Heap.sub_congr ?_ | refine Heap.sub_set ?_ (by assumption) | refine Heap.sub_set2 ?_ (by first | assumption | (simp only [*]; done) | (simp only [Heap.set_none', stH_none, ne_eq, *, not_false_eq_true, and_self]; done)))))))
    exact ⟨rfl, rfl⟩
  | false =>
    rw [hR] at c1
    repeat' (first
    | (with_reducible apply run_seq)
    | ((with_reducible apply run_go); simp only [go_sem, *])
    | ((with_reducible apply run_cond_t); (focus (simp only [go_sem, *]; done)))
    | ((with_reducible apply runO_callF known59); simp only [go_sem, *]; refine (c1 _).use ?_; (with_reducible apply runO_go); simp only [go_sem, *])
    | ((with_reducible apply run_ret Try.func41 res41 (H' := H)); (focus (simp only [go_sem, *]; rfl)); (focus trivial); (focus (repeat (first | assumption | exact Heap.sub_refl _ | refine Heap.sub_congr ?_ | refine Heap.sub_set ?_ (by assumption) | refine Heap.sub_set2 ?_ (by first | assumption | (simp only [*]; done) | (simp only [Heap.set_none', stH_none, ne_eq, *, not_false_eq_true, and_self]; done)))))))
    exact ⟨rfl, rfl⟩

set_option maxRecDepth 100000 in
set_option maxHeartbeats 16000000 in
theorem rRaces_call (W : World) (H : Heap) (lo : Lo) (s : St) (h : AtR H lo s) (hs : OkSt s) (l : List Ev) (hl : l.length ≤ 1000) :
    CallA Try.prog W 42 [.v (.pointer (some ⟨lo.b, 0, none⟩)), .list (evsC l)] H fun r H' => r = .list (rcsC (rsE s l)) ∧ H' = H := by
  refine call_in Try.func42 rfl Try.ntmps42 (by simp) ?_
  have c1 := fun H => rows_call W H l (by omega)
  have c4 := fun H' (hk : H.sub H') (t : Int) => nNext_call W (h.mono hk) t hs
  have hn4 := (ok_len hs).1
  have hb := h.cell
  clear h hs
  unfold rsE
  by_cases hR : l.all rightR = true
  · rw [if_pos hR]
    rw [hR] at c1
    repeat' (first
    | (with_reducible apply run_seq)
    | (with_reducible apply run_block)
    | (with_reducible apply run_skip)
    | ((with_reducible apply run_go); simp only [go_sem, *])
    | ((with_reducible apply run_cond_f); (focus (simp only [go_sem, *]; done)))
    | ((with_reducible apply runO_callFG known43); (focus (simp only [go_sem, *]; rfl)); (focus (intro _; simp only [go_sem, *]; exact c1 _)); (with_reducible apply runO_go); simp only [go_sem, *]))
    clear c1
    refine run_loop (fun na ea Ha => ∃ (k : Nat), k ≤ s.ts.length ∧ na = s.ts.length - k ∧ ea 0 = .v (.pointer (some ⟨lo.b, 0, none⟩)) ∧ ea 1 = .list (evsC l) ∧ ea 6 = .v (.int .i64 (k : Int)) ∧ Coll (H) (100) (2) (rcsC (rsS s l k)) (ea 5) Ha) (s.ts.length)
        ⟨0, Nat.zero_le _, rfl, (by simp only [go_sem, *]), (by simp only [go_sem, *]), (by simp only [go_sem] <;> rfl), (by simp only [go_sem]; exact .none rfl)⟩ ?_
    rintro na ea Ha ih ⟨k, ak, rfl, as0, as1, as6, ca⟩
    generalize hac : ea 5 = da at ca
    have IHa : Hid _ := ih
    clear ih
    have hsub := ca.sub
    have hba := hsub _ _ hb
    have hfl := ca.flat
    by_cases hlt : k < s.ts.length
    · have hw := wrap_succ (k := k) (by omega)
      have hsu := rsS_succ s l k
      have hbl := rsS_le s l (k := k) (by omega) hl
      have c5 := fun H' hk => c4 H' hk (k : Int)
      have c2 := fun H => rWith_call W H l (s.nxt (k : Int)) (by omega)
      have hwl := wiD_len l (s.nxt (k : Int)) l.length
      have hre := rac_eq hR (s.nxt (k : Int))
      cases hh : s.has (k : Int) with
      | false =>
        rw [hh] at c5 hsu
        simp only [Bool.false_eq_true, if_false, List.append_nil] at hsu
        have HSU : Hid _ := hsu
        clear hsu c4 hre
        generalize wiD l (s.nxt (k : Int)) l.length = M at *
        repeat' (first
    | (with_reducible apply run_seq)
    | (with_reducible apply run_block)
    | (with_reducible apply run_skip)
    | ((with_reducible apply run_go); simp only [go_sem, *])
    | ((with_reducible apply run_cond_t); (focus (simp only [go_sem, *]; done)))
    | ((with_reducible apply runO_alloc); (focus (simp only [go_sem, *]; rfl)); intro pb hpb; have hfb := Heap.ne_of_none hpb; (try simp only [Heap.set_none', stH_none] at hpb); (with_reducible apply runO_go); simp only [go_sem, *])
    | ((with_reducible apply runO_store); (focus (simp only [go_sem]; rfl)); (focus (simp only [go_sem, *]; rfl)); (focus (simp only [go_sem, *]; rfl)); (focus (simp only [go_sem, *]; done)); (focus (simp only [go_sem, *]; done)); (focus (simp only [go_sem, *]; done)); (with_reducible apply runO_go); simp only [go_sem, *, Heap.set_set])
    | ((with_reducible apply runO_callF known50); simp only [go_sem, *]; refine (c5 _ (by (repeat (first | assumption | exact Heap.sub_refl _ | refine Heap.sub_congr ?_ | refine Heap.sub_set ?_ (by assumption) | refine Heap.sub_set2 ?_ (by first | assumption | (simp only [*]; done) | (simp only [Heap.set_none', stH_none, ne_eq, *, not_false_eq_true, and_self]; done)))); done)).use ?_; (with_reducible apply runO_go); simp only [go_sem, *])
    | ((with_reducible apply runO_callF known61); simp only [go_sem, *]; refine (c2 _).use ?_; (with_reducible apply runO_go); simp only [go_sem, *]))
        refine run_loop1 ?_
        repeat' (first
    | (with_reducible apply run_seq)
    | (with_reducible apply run_inBlock)
    | (with_reducible apply run_exit rfl)
    | ((with_reducible apply run_go); simp only [go_sem, *])
    | ((with_reducible apply run_cond_f); (focus (simp only [go_sem, *]; done))))
        refine run_drop (H' := Ha) (by (repeat (first | assumption | exact Heap.sub_refl _ | refine Heap.sub_congr ?_ | refine Heap.sub_set ?_ (by assumption) | refine Heap.sub_set2 ?_ (by first | assumption | (simp only [*]; done) | (simp only [Heap.set_none', stH_none, ne_eq, *, not_false_eq_true, and_self]; done)))); done) ?_
        refine IHa.out (s.ts.length - (k + 1)) _ _ (by omega) ⟨k + 1, by omega, rfl, (by simp only [go_sem, *]), (by simp only [go_sem, *]), (by simp only [go_sem, *]), ?_⟩
        rw [HSU.out]
        simp only [go_sem, *]
      | true =>
        rw [hh] at c5 hsu
        have hnt := nxt_th hh
        rw [if_pos rfl, ← hre, hnt] at hsu
        have HSU : Hid _ := hsu
        clear hsu c4 hre
        generalize wiD l (s.nxt (k : Int)) l.length = M at *
        have hml := natsI_len M
        repeat' (first
    | (with_reducible apply run_seq)
    | (with_reducible apply run_block)
    | (with_reducible apply run_skip)
    | ((with_reducible apply run_go); simp only [go_sem, *])
    | ((with_reducible apply run_cond_t); (focus (simp only [go_sem, *]; done)))
    | ((with_reducible apply runO_alloc); (focus (simp only [go_sem, *]; rfl)); intro pb hpb; have hfb := Heap.ne_of_none hpb; (try simp only [Heap.set_none', stH_none] at hpb); (with_reducible apply runO_go); simp only [go_sem, *])
    | ((with_reducible apply runO_store); (focus (simp only [go_sem]; rfl)); (focus (simp only [go_sem, *]; rfl)); (focus (simp only [go_sem, *]; rfl)); (focus (simp only [go_sem, *]; done)); (focus (simp only [go_sem, *]; done)); (focus (simp only [go_sem, *]; done)); (with_reducible apply runO_go); simp only [go_sem, *, Heap.set_set])
    | ((with_reducible apply runO_callF known50); simp only [go_sem, *]; refine (c5 _ (by (repeat (first | assumption | exact Heap.sub_refl _ | refine Heap.sub_congr ?_ | refine Heap.sub_set ?_ (by assumption) | refine Heap.sub_set2 ?_ (by first | assumption | (simp only [*]; done) | (simp only [Heap.set_none', stH_none, ne_eq, *, not_false_eq_true, and_self]; done)))); done)).use ?_; (with_reducible apply runO_go); simp only [go_sem, *])
    | ((with_reducible apply runO_callF known61); simp only [go_sem, *]; refine (c2 _).use ?_; (with_reducible apply runO_go); simp only [go_sem, *]))
        refine run_drop (H' := Ha) (by (repeat (first | assumption | exact Heap.sub_refl _ | refine Heap.sub_congr ?_ | refine Heap.sub_set ?_ (by assumption) | refine Heap.sub_set2 ?_ (by first | assumption | (simp only [*]; done) | (simp only [Heap.set_none', stH_none, ne_eq, *, not_false_eq_true, and_self]; done)))); done) ?_
        clear c2 c5
        refine run_loop (fun nb eb Hb => ∃ (j : Nat), j ≤ M.length ∧ nb = M.length - j ∧ eb 0 = .v (.pointer (some ⟨lo.b, 0, none⟩)) ∧ eb 1 = .list (evsC l) ∧ eb 6 = .v (.int .i64 (k : Int)) ∧ eb 8 = .v (.bool true) ∧ eb 9 = .list (intsC (natsI M)) ∧ eb 10 = .v (.int .i64 (j : Int)) ∧ Coll (H) (100) (2) (rcsC (rsS s l k ++ rcK (k : Int) (M.take j))) (eb 5) Hb) (M.length)
            ⟨0, Nat.zero_le _, rfl, (by simp only [go_sem, *]), (by simp only [go_sem, *]), (by simp only [go_sem, *]), (by simp only [go_sem, *]), (by simp only [go_sem, *]), (by simp only [go_sem] <;> rfl), (by simp only [go_sem]; exact (by simp only [hac]; simpa [rcK] using ca))⟩ ?_
        rintro nb eb Hb ih ⟨j, bk, rfl, bs0, bs1, bs6, bs8, bs9, bs10, cb⟩
        generalize hbc : eb 5 = db at cb
        have IHb : Hid _ := ih
        clear ih
        by_cases hj : j < M.length
        · have hwj := wrap_succ (k := j) (by omega)
          have htk := rcK_take (k : Int) M hj
          have hng := natsI_get M hj
          have hrl := rcK_len (k : Int) (M.take j)
          have hrt : (M.take j).length ≤ j := by rw [List.length_take]; omega
          have HTK : Hid _ := htk
          clear htk
          repeat' (first
    | (with_reducible apply run_seq)
    | (with_reducible apply run_block)
    | (with_reducible apply run_skip)
    | ((with_reducible apply run_go); simp only [go_sem, *])
    | ((with_reducible apply run_cond_t); (focus (simp only [go_sem, *]; done)))
    | ((with_reducible apply runO_buildSlice); (focus (simp only [go_sem]; rfl)); (focus (simp only [go_sem]; rfl)); (focus (simp only [go_sem]; rfl)); (focus rfl); (focus rfl); (focus (simp only [go_sem, *]; done)); (focus (simp only [go_sem, *]; done)); (focus decide); (with_reducible apply runO_go); simp only [go_sem, *]))
          (refine runO_coll (t := 64) Try.underlying64 sz100 by100 zr100 rfl (by simp only [go_sem, *]; exact cb) (by simp only [go_sem, *]; rfl) (rcsC_all _) (by simp) (by (try simp only [List.length_range, List.length_map, List.length_take, List.length_cons, List.length_nil, List.length_append, go_sem]); omega) (by (try simp only [maxLen, List.length_range, List.length_map, List.length_take, List.length_cons, List.length_nil, List.length_append, go_sem]); omega) (fun d1 H1 hc1 => ?_); (with_reducible apply runO_go); simp only [go_sem, *])
          repeat' (first
    | (with_reducible apply run_inBlock)
    | ((with_reducible apply run_go); simp only [go_sem, *]))
          refine IHb.out (M.length - (j + 1)) _ _ (by omega) ⟨j + 1, by omega, rfl, (by simp only [go_sem, *]), (by simp only [go_sem, *]), (by simp only [go_sem, *]), (by simp only [go_sem, *]), (by simp only [go_sem, *]), (by simp only [go_sem, *]), ?_⟩
          simp only [go_sem]
          rw [HTK.out, ← List.append_assoc, rcsC_snoc]
          exact hc1
        · obtain rfl : j = M.length := by omega
          repeat' (first
    | (with_reducible apply run_seq)
    | (with_reducible apply run_inBlock)
    | (with_reducible apply run_exit rfl)
    | ((with_reducible apply run_go); simp only [go_sem, *])
    | ((with_reducible apply run_cond_f); (focus (simp only [go_sem, *]; done))))
          refine IHa.out (s.ts.length - (k + 1)) _ _ (by omega) ⟨k + 1, by omega, rfl, (by simp only [go_sem, *]), (by simp only [go_sem, *]), (by simp only [go_sem, *]), ?_⟩
          rw [HSU.out]
          rw [List.take_length] at cb
          simp only [go_sem, *]
    · obtain rfl : k = s.ts.length := by omega
      clear c4
      repeat' (first
    | (with_reducible apply run_seq)
    | (with_reducible apply run_exit rfl)
    | ((with_reducible apply run_go); simp only [go_sem, *])
    | ((with_reducible apply run_cond_f); (focus (simp only [go_sem, *]; done)))
    | ((with_reducible apply run_ret Try.func42 res42 (H' := H)); (focus (simp only [go_sem, *]; rfl)); (focus trivial); (focus (repeat (first | assumption | exact Heap.sub_refl _ | refine Heap.sub_congr ?_ | refine Heap.sub_set ?_ (by assumption) | refine Heap.sub_set2 ?_ (by first | assumption | (simp only [*]; done) | (simp only [Heap.set_none', stH_none, ne_eq, *, not_false_eq_true, and_self]; done)))))))
      exact ⟨rfl, rfl⟩
  · rw [if_neg hR]
    rw [Bool.not_eq_true] at hR
    rw [hR] at c1
    repeat' (first
    | (with_reducible apply run_seq)
    | ((with_reducible apply run_go); simp only [go_sem, *])
    | ((with_reducible apply run_cond_t); (focus (simp only [go_sem, *]; done)))
    | ((with_reducible apply runO_callFG known43); (focus (simp only [go_sem, *]; rfl)); (focus (intro _; simp only [go_sem, *]; exact c1 _)); (with_reducible apply runO_go); simp only [go_sem, *])
    | ((with_reducible apply run_ret Try.func42 res42 (H' := H)); (focus (simp only [go_sem, *]; rfl)); (focus trivial); (focus (repeat (first | assumption | exact Heap.sub_refl _ | refine Heap.sub_congr ?_ | refine Heap.sub_set ?_ (by assumption) | refine Heap.sub_set2 ?_ (by first | assumption | (simp only [*]; done) | (simp only [Heap.set_none', stH_none, ne_eq, *, not_false_eq_true, and_self]; done)))))))
    exact ⟨rfl, rfl⟩
end Go.Proofs.Ytobdagjdhgjplaa
