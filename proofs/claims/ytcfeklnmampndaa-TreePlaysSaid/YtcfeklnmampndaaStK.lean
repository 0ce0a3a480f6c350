/-
  Contracts: who may, copies; states that are none.
-/
import Derived.Test.YtcfeklnmampndaaStJ
set_option linter.unusedSimpArgs false
set_option linter.unusedVariables false
namespace Go.Proofs.Ytcfeklnmampndaa
open Go Go.Sn Go.RowKit

@[go_sem] theorem addr_isNone : (none : Option Addr).isNone = true := rfl
@[go_sem] theorem addr_isSome : (none : Option Addr).isSome = false := rfl
def allK (s : St) (k : Nat) : List Int := ((List.range k).filter fun (j : Nat) => s.may (j : Int)).map fun (j : Nat) => (j : Int)
theorem all_eq (s : St) : s.all = allK s s.ts.length := rfl
theorem allK_succ (s : St) (k : Nat) : allK s (k + 1) = if s.may (k : Int) then allK s k ++ [(k : Int)] else allK s k := by
  unfold allK
  rw [List.range_succ, List.filter_append, List.map_append]
  cases h : s.may (k : Int) <;> simp [h]
theorem allK_len (s : St) (k : Nat) : (allK s k).length ≤ k := by
  unfold allK
  rw [List.length_map]
  have := List.length_filter_le (fun (j : Nat) => s.may (j : Int)) (List.range k)
  rwa [List.length_range] at this
theorem ok_len {s : St} (hs : OkSt s) : s.ts.length ≤ 4 ∧ 1 ≤ s.ts.length := by
  obtain ⟨_, h, _⟩ := right_ok hs.right
  rw [hs.len]
  omega

theorem mAll_call (W : World) (H : Heap) (l : Lo) (s : St) (h : AtP H l s) (hs : OkSt s) :
    CallA Try.prog W 31 [.v (.pointer (some ⟨l.b, 0, none⟩))] H fun r H' => r = .list (intsC s.all) ∧ H' = H := by
  refine call_in Try.func31 rfl Try.ntmps31 (by simp) ?_
  have c1 := fun H' (hk : H.sub H') => mThreads_call W (h.mono hk)
  have c2 := fun H' (hk : H.sub H') (k : Nat) => mEnabled_call W (h.mono hk) (k : Int) hs
  have hl4 := (ok_len hs).1
  rw [all_eq]
  clear h hs
  repeat' (first
    | (with_reducible apply run_seq)
    | (with_reducible apply run_block)
    | ((with_reducible apply run_go); simp only [go_sem, *])
    | ((with_reducible apply runO_callF known51); simp only [go_sem, *]; refine (c1 _ (by (repeat (first | assumption | exact Heap.sub_refl _ | refine Heap.sub_congr ?_ | refine Heap.sub_set ?_ (by assumption) | refine Heap.sub_set2 ?_ (by first | assumption | (simp only [*]; done) | (simp only [Heap.set_none', ne_eq, *, not_false_eq_true, and_self]; done)))); done)).use ?_; (with_reducible apply runO_go); simp only [go_sem, *]))
  refine run_loop (fun na ea Ha => ∃ (k : Nat), k ≤ s.ts.length ∧ na = s.ts.length - k ∧ ea 0 = .v (.pointer (some ⟨l.b, 0, none⟩)) ∧ ea 5 = .v (.int .i64 (s.ts.length : Int)) ∧ ea 6 = .v (.int .i64 (k : Int)) ∧ Coll (H) (3) (1) (intsC (allK s k)) (ea 2) Ha) (s.ts.length)
      ⟨0, Nat.zero_le _, rfl, (by simp only [go_sem, *]), (by simp only [go_sem, *]), (by simp only [go_sem] <;> rfl), (by simp only [go_sem]; exact .none rfl)⟩ ?_
  rintro na ea Ha ih ⟨k, ak, rfl, as0, as5, as6, ca⟩
  generalize hac : ea 2 = da at ca
  have IHa : Hid _ := ih
  clear ih
  have hsub := ca.sub
  by_cases hlt : k < s.ts.length
  · have hw := wrap_succ (k := k) (by omega)
    have c3 := c2 _ hsub k
    have hak := allK_len s k
    have hsu := allK_succ s k
    cases hm : s.may (k : Int) with
    | true =>
      rw [hm] at c3 hsu
      rw [if_pos rfl] at hsu
      have HSU : Hid _ := hsu
      clear c1 c2 hsu
      repeat' (first
    | (with_reducible apply run_seq)
    | (with_reducible apply run_block)
    | (with_reducible apply run_skip)
    | ((with_reducible apply run_go); simp only [go_sem, *])
    | ((with_reducible apply run_cond_t); (focus (simp only [go_sem, *]; done)))
    | ((with_reducible apply runO_callF known33); simp only [go_sem, *]; refine (c3).use ?_; (with_reducible apply runO_go); simp only [go_sem, *])
    | ((with_reducible apply runO_buildSlice); (focus (simp only [go_sem]; rfl)); (focus (simp only [go_sem]; rfl)); (focus (simp only [go_sem]; rfl)); (focus rfl); (focus rfl); (focus (simp only [go_sem, *]; done)); (focus (simp only [go_sem, *]; done)); (focus decide); (with_reducible apply runO_go); simp only [go_sem, *]))
      (refine runO_coll (t := 41) Try.underlying41 sz3 by3 zr3 rfl (by simp only [go_sem, *]; exact ca) (by simp only [go_sem, *]; rfl) (intsC_all _) (by simp) (by (try simp only [List.length_range, List.length_map, List.length_take, List.length_cons, List.length_nil, List.length_append, go_sem]); omega) (by (try simp only [maxLen, List.length_range, List.length_map, List.length_take, List.length_cons, List.length_nil, List.length_append, go_sem]); omega) (fun d1 H1 hc1 => ?_); (with_reducible apply runO_go); simp only [go_sem, *])
      repeat' (first
    | (with_reducible apply run_inBlock)
    | ((with_reducible apply run_go); simp only [go_sem, *]))
      refine IHa.out (s.ts.length - (k + 1)) _ _ (by omega) ⟨k + 1, by omega, rfl, (by simp only [go_sem, *]), (by simp only [go_sem, *]), (by simp only [go_sem, *]), ?_⟩
      simp only [go_sem]
      rw [HSU.out, intsC_snoc]
      exact hc1
    | false =>
      rw [hm] at c3 hsu
      simp only [Bool.false_eq_true, if_false] at hsu
      have HSU : Hid _ := hsu
      clear c1 c2 hsu
      repeat' (first
    | (with_reducible apply run_seq)
    | (with_reducible apply run_block)
    | (with_reducible apply run_inBlock)
    | (with_reducible apply run_skip)
    | ((with_reducible apply run_go); simp only [go_sem, *])
    | ((with_reducible apply run_cond_t); (focus (simp only [go_sem, *]; done)))
    | ((with_reducible apply run_cond_f); (focus (simp only [go_sem, *]; done)))
    | ((with_reducible apply runO_callF known33); simp only [go_sem, *]; refine (c3).use ?_; (with_reducible apply runO_go); simp only [go_sem, *]))
      refine IHa.out (s.ts.length - (k + 1)) _ _ (by omega) ⟨k + 1, by omega, rfl, (by simp only [go_sem, *]), (by simp only [go_sem, *]), (by simp only [go_sem, *]), ?_⟩
      rw [HSU.out]
      simp only [go_sem, *]
  · obtain rfl : k = s.ts.length := by omega
    have hfl := ca.flat
    clear c1 c2
    repeat' (first
    | (with_reducible apply run_seq)
    | (with_reducible apply run_exit rfl)
    | ((with_reducible apply run_go); simp only [go_sem, *])
    | ((with_reducible apply run_cond_f); (focus (simp only [go_sem, *]; done)))
    | ((with_reducible apply run_ret Try.func31 res31 (H' := H)); (focus (simp only [go_sem, *]; rfl)); (focus trivial); (focus (repeat (first | assumption | exact Heap.sub_refl _ | refine Heap.sub_congr ?_ | refine Heap.sub_set ?_ (by assumption) | refine Heap.sub_set2 ?_ (by first | assumption | (simp only [*]; done) | (simp only [Heap.set_none', ne_eq, *, not_false_eq_true, and_self]; done)))))))
    exact ⟨rfl, rfl⟩

theorem nilThreads_call (W : World) (H : Heap) : CallA Try.prog W 51 [.v (.pointer none)] H fun r H' => r = .v (.int .i64 0) ∧ H' = H := by
  refine call_in Try.func51 rfl Try.ntmps51 (by simp) ?_
  repeat' (first
    | (with_reducible apply run_seq)
    | ((with_reducible apply run_go); simp only [go_sem, *])
    | ((with_reducible apply run_cond_t); (focus (simp only [go_sem, *]; done)))
    | ((with_reducible apply run_ret Try.func51 res51 (H' := H)); (focus (simp only [go_sem, *]; rfl)); (focus trivial); (focus (repeat (first | assumption | exact Heap.sub_refl _ | refine Heap.sub_congr ?_ | refine Heap.sub_set ?_ (by assumption) | refine Heap.sub_set2 ?_ (by first | assumption | (simp only [*]; done) | (simp only [Heap.set_none', ne_eq, *, not_false_eq_true, and_self]; done)))))))
  exact ⟨rfl, rfl⟩
theorem nilIs_call (W : World) (H : Heap) (t : Int) : CallA Try.prog W 70 [.v (.pointer none), .v (.int .i64 t)] H fun r H' => r = .v (.bool false) ∧ H' = H := by
  refine call_in Try.func70 rfl Try.ntmps70 (by simp) ?_
  by_cases h0 : 0 ≤ t
  · have h1 : ¬ t < 0 := by omega
    repeat' (first
    | (with_reducible apply run_seq)
    | ((with_reducible apply run_go); simp only [go_sem, *])
    | ((with_reducible apply runO_callFG known51); (focus (simp only [go_sem, *]; rfl)); (focus (intro _; simp only [go_sem, *]; exact nilThreads_call W _)); (with_reducible apply runO_go); simp only [go_sem, *])
    | ((with_reducible apply run_ret Try.func70 res70 (H' := H)); (focus (simp only [go_sem, *]; rfl)); (focus trivial); (focus (repeat (first | assumption | exact Heap.sub_refl _ | refine Heap.sub_congr ?_ | refine Heap.sub_set ?_ (by assumption) | refine Heap.sub_set2 ?_ (by first | assumption | (simp only [*]; done) | (simp only [Heap.set_none', ne_eq, *, not_false_eq_true, and_self]; done)))))))
    exact ⟨rfl, rfl⟩
  · repeat' (first
    | (with_reducible apply run_seq)
    | ((with_reducible apply run_go); simp only [go_sem, *])
    | ((with_reducible apply runO_skipF); (focus (simp only [go_sem, *]; rfl)); (focus rfl); (with_reducible apply runO_go); simp only [go_sem, *])
    | ((with_reducible apply run_ret Try.func70 res70 (H' := H)); (focus (simp only [go_sem, *]; rfl)); (focus trivial); (focus (repeat (first | assumption | exact Heap.sub_refl _ | refine Heap.sub_congr ?_ | refine Heap.sub_set ?_ (by assumption) | refine Heap.sub_set2 ?_ (by first | assumption | (simp only [*]; done) | (simp only [Heap.set_none', ne_eq, *, not_false_eq_true, and_self]; done)))))))
    exact ⟨rfl, rfl⟩
theorem nilInstr_call (W : World) (H : Heap) (t : Int) : CallA Try.prog W 64 [.v (.pointer none), .v (.int .i64 t)] H fun r H' => r = .tup [.agg (inC in0), .v (.bool false)] ∧ H' = H := by
  refine call_in Try.func64 rfl Try.ntmps64 (by simp) ?_
  repeat' (first
    | (with_reducible apply run_seq)
    | ((with_reducible apply run_go); simp only [go_sem, *])
    | ((with_reducible apply run_cond_t); (focus (simp only [go_sem, *]; done)))
    | ((with_reducible apply runO_alloc); (focus (simp only [go_sem, *]; rfl)); intro pb hpb; have hfb := Heap.ne_of_none hpb; (try simp only [Heap.set_none'] at hpb); (with_reducible apply runO_go); simp only [go_sem, *])
    | ((with_reducible apply runO_store); (focus (simp only [go_sem]; rfl)); (focus (simp only [go_sem, *]; rfl)); (focus (simp only [go_sem, *]; rfl)); (focus (simp only [go_sem, *]; done)); (focus (simp only [go_sem, *]; done)); (focus (simp only [go_sem, *]; done)); (with_reducible apply runO_go); simp only [go_sem, *, Heap.set_set])
    | ((with_reducible apply runO_callF known70); simp only [go_sem, *]; refine (nilIs_call W _ t).use ?_; (with_reducible apply runO_go); simp only [go_sem, *])
    | ((with_reducible apply run_ret Try.func64 res64 (H' := H)); (focus (simp only [go_sem, *]; rfl)); (focus trivial); (focus (repeat (first | assumption | exact Heap.sub_refl _ | refine Heap.sub_congr ?_ | refine Heap.sub_set ?_ (by assumption) | refine Heap.sub_set2 ?_ (by first | assumption | (simp only [*]; done) | (simp only [Heap.set_none', ne_eq, *, not_false_eq_true, and_self]; done)))))))
  exact ⟨rfl, rfl⟩
theorem nilNext_call (W : World) (H : Heap) (t : Int) : CallA Try.prog W 52 [.v (.pointer none), .v (.int .i64 t)] H fun r H' => r = .tup [.agg (evC ev0), .v (.bool false)] ∧ H' = H := by
  refine call_in Try.func52 rfl Try.ntmps52 (by simp) ?_
  repeat' (first
    | (with_reducible apply run_seq)
    | ((with_reducible apply run_go); simp only [go_sem, *])
    | ((with_reducible apply run_cond_t); (focus (simp only [go_sem, *]; done)))
    | ((with_reducible apply runO_alloc); (focus (simp only [go_sem, *]; rfl)); intro pb hpb; have hfb := Heap.ne_of_none hpb; (try simp only [Heap.set_none'] at hpb); (with_reducible apply runO_go); simp only [go_sem, *])
    | ((with_reducible apply runO_store); (focus (simp only [go_sem]; rfl)); (focus (simp only [go_sem, *]; rfl)); (focus (simp only [go_sem, *]; rfl)); (focus (simp only [go_sem, *]; done)); (focus (simp only [go_sem, *]; done)); (focus (simp only [go_sem, *]; done)); (with_reducible apply runO_go); simp only [go_sem, *, Heap.set_set])
    | ((with_reducible apply runO_callF known64); simp only [go_sem, *]; refine (nilInstr_call W _ t).use ?_; (with_reducible apply runO_go); simp only [go_sem, *])
    | ((with_reducible apply run_ret Try.func52 res52 (H' := H)); (focus (simp only [go_sem, *]; rfl)); (focus trivial); (focus (repeat (first | assumption | exact Heap.sub_refl _ | refine Heap.sub_congr ?_ | refine Heap.sub_set ?_ (by assumption) | refine Heap.sub_set2 ?_ (by first | assumption | (simp only [*]; done) | (simp only [Heap.set_none', ne_eq, *, not_false_eq_true, and_self]; done)))))))
  exact ⟨rfl, rfl⟩
theorem nilEnabled_call (W : World) (H : Heap) (t : Int) : CallA Try.prog W 33 [.v (.pointer none), .v (.int .i64 t)] H fun r H' => r = .v (.bool false) ∧ H' = H := by
  refine call_in Try.func33 rfl Try.ntmps33 (by simp) ?_
  have c1 := fun H => nilNext_call W H t
  unfold ev0 at c1
  repeat' (first
    | (with_reducible apply run_seq)
    | ((with_reducible apply run_go); simp only [go_sem, *])
    | ((with_reducible apply run_drawGo Cl.zero Cl.zero_plain mixed); (focus kernel_rfl); simp only [go_sem, *])
    | ((with_reducible apply runO_alloc); (focus (simp only [go_sem, *]; rfl)); intro pb hpb; have hfb := Heap.ne_of_none hpb; (try simp only [Heap.set_none'] at hpb); (with_reducible apply runO_go); simp only [go_sem, *])
    | ((with_reducible apply runO_store); (focus (simp only [go_sem]; rfl)); (focus (simp only [go_sem, *]; rfl)); (focus (simp only [go_sem, *]; rfl)); (focus (simp only [go_sem, *]; done)); (focus (simp only [go_sem, *]; done)); (focus (simp only [go_sem, *]; done)); (with_reducible apply runO_go); simp only [go_sem, *, Heap.set_set])
    | ((with_reducible apply runD_skipF); (focus rfl); (focus (simp only [go_sem, *]; rfl)); (focus rfl); (with_reducible first | apply runD_go Cl.zero_plain | apply runD_goC); simp only [go_sem, *])
    | ((with_reducible apply runO_callF known52); simp only [go_sem, *]; refine (c1 _).use ?_; (with_reducible apply runO_go); simp only [go_sem, *])
    | ((with_reducible apply run_ret Try.func33 res33 (H' := H)); (focus (simp only [go_sem, *]; rfl)); (focus trivial); (focus (repeat (first | assumption | exact Heap.sub_refl _ | refine Heap.sub_congr ?_ | refine Heap.sub_set ?_ (by assumption) | refine Heap.sub_set2 ?_ (by first | assumption | (simp only [*]; done) | (simp only [Heap.set_none', ne_eq, *, not_false_eq_true, and_self]; done)))))))
  exact ⟨rfl, rfl⟩
theorem nilStep_call (W : World) (H : Heap) (t : Int) : CallA Try.prog W 63 [.v (.pointer none), .v (.int .i64 t)] H fun r H' => r = .tup [.agg (evC ev0), .v (.int .i64 8)] ∧ H' = H := by
  refine call_in Try.func63 rfl Try.ntmps63 (by simp) ?_
  repeat' (first
    | (with_reducible apply run_seq)
    | (with_reducible apply run_block)
    | ((with_reducible apply run_go); simp only [go_sem, *])
    | ((with_reducible apply run_cond_t); (focus (simp only [go_sem, *]; done)))
    | ((with_reducible apply runO_alloc); (focus (simp only [go_sem, *]; rfl)); intro pb hpb; have hfb := Heap.ne_of_none hpb; (try simp only [Heap.set_none'] at hpb); (with_reducible apply runO_go); simp only [go_sem, *])
    | ((with_reducible apply runO_store); (focus (simp only [go_sem]; rfl)); (focus (simp only [go_sem, *]; rfl)); (focus (simp only [go_sem, *]; rfl)); (focus (simp only [go_sem, *]; done)); (focus (simp only [go_sem, *]; done)); (focus (simp only [go_sem, *]; done)); (with_reducible apply runO_go); simp only [go_sem, *, Heap.set_set])
    | ((with_reducible apply run_ret Try.func63 res63 (H' := H)); (focus (simp only [go_sem, *]; rfl)); (focus trivial); (focus (repeat (first | assumption | exact Heap.sub_refl _ | refine Heap.sub_congr ?_ | refine Heap.sub_set ?_ (by assumption) | refine Heap.sub_set2 ?_ (by first | assumption | (simp only [*]; done) | (simp only [Heap.set_none', ne_eq, *, not_false_eq_true, and_self]; done)))))))
  exact ⟨rfl, rfl⟩
theorem nilAll_call (W : World) (H : Heap) : CallA Try.prog W 31 [.v (.pointer none)] H fun r H' => r = .list [] ∧ H' = H := by
  refine call_in Try.func31 rfl Try.ntmps31 (by simp) ?_
  repeat' (first
    | (with_reducible apply run_seq)
    | (with_reducible apply run_block)
    | ((with_reducible apply run_go); simp only [go_sem, *])
    | ((with_reducible apply runO_callF known51); simp only [go_sem, *]; refine (nilThreads_call W _).use ?_; (with_reducible apply runO_go); simp only [go_sem, *]))
  refine run_loop1 ?_
  repeat' (first
    | (with_reducible apply run_seq)
    | (with_reducible apply run_exit rfl)
    | ((with_reducible apply run_go); simp only [go_sem, *])
    | ((with_reducible apply run_cond_f); (focus (simp only [go_sem, *]; done)))
    | ((with_reducible apply run_ret Try.func31 res31 (H' := H)); (focus (simp only [go_sem, *]; rfl)); (focus trivial); (focus (repeat (first | assumption | exact Heap.sub_refl _ | refine Heap.sub_congr ?_ | refine Heap.sub_set ?_ (by assumption) | refine Heap.sub_set2 ?_ (by first | assumption | (simp only [*]; done) | (simp only [Heap.set_none', ne_eq, *, not_false_eq_true, and_self]; done)))))))
  exact ⟨rfl, rfl⟩
end Go.Proofs.Ytcfeklnmampndaa
