/-
  Contracts: how many are in a set; the document's sets.
-/
import Derived.Test.YtcfeklnmampndaaSlA
set_option linter.unusedSimpArgs false
set_option linter.unusedVariables false
namespace Go.Proofs.Ytcfeklnmampndaa
open Go Go.Sn Go.RowKit

theorem bits_fin : ∀ (k : Fin 8) (n : Fin 256), (((n.val : Int).fdiv (2 ^ min k.val 64)).tmod 2 = 1) ↔ hasE (BitVec.ofFin n) (k.val : Int) = true := by decide +kernel
theorem bits_law (s : BitVec 8) {k : Nat} (h : k < 8) : (((s.toNat : Int).fdiv (2 ^ min k 64)).tmod 2 = 1) ↔ hasE s (k : Int) = true := bits_fin ⟨k, h⟩ s.toFin
theorem bits_call (W : World) (H : Heap) (s : BitVec 8) :
    CallA Try.prog W 12 [.v (.int .i64 (s.toNat : Int))] H fun r H' => r = .list (intsC (allB s 8)) ∧ H' = H := by
  refine call_in Try.func12 rfl Try.ntmps12 (by simp) ?_
  repeat' (first
    | (with_reducible apply run_seq)
    | (with_reducible apply run_block)
    | ((with_reducible apply run_go); simp only [go_sem, *]))
  refine run_loop (fun na ea Ha => ∃ (k : Nat), k ≤ 8 ∧ na = 8 - k ∧ ea 0 = .v (.int .i64 (s.toNat : Int)) ∧ ea 4 = .v (.int .i64 (k : Int)) ∧ Coll (H) (3) (1) (intsC (allB s k)) (ea 3) Ha) (8)
      ⟨0, Nat.zero_le _, rfl, (by simp only [go_sem, *]), (by simp only [go_sem] <;> rfl), (by simp only [go_sem]; exact .none rfl)⟩ ?_
  rintro na ea Ha ih ⟨k, ak, rfl, as0, as4, ca⟩
  generalize hac : ea 3 = da at ca
  have IHa : Hid _ := ih
  clear ih
  have hsub := ca.sub
  by_cases hlt : k < 8
  · have hw := wrap_succ (k := k) (by omega)
    have hlt' : (k : Int) < 8 := by omega
    have hk0 : (0 : Int) ≤ (k : Int) := by omega
    have hak := allB_len s k
    have hsu := allB_succ s k
    have HSU : Hid _ := hsu
    clear hsu
    repeat' (first
    | (with_reducible apply run_seq)
    | (with_reducible apply run_block)
    | (with_reducible apply run_inBlock)
    | (with_reducible apply run_skip)
    | ((with_reducible apply run_go); simp only [go_sem, *])
    | ((with_reducible apply run_cond_t); (focus (simp only [go_sem, *]; done)))
    | ((with_reducible apply run_cond); (focus (simp only [go_sem, *]; rfl)); (all_goals intro _))
    | ((with_reducible apply runO_buildSlice); (focus (simp only [go_sem]; rfl)); (focus (simp only [go_sem]; rfl)); (focus (simp only [go_sem]; rfl)); (focus rfl); (focus rfl); (focus (simp only [go_sem, *]; done)); (focus (simp only [go_sem, *]; done)); (focus decide); (with_reducible apply runO_go); simp only [go_sem, *]))
    · rename_i h
      rw [decide_eq_true_eq, bits_law s hlt] at h
      have hs := HSU.out
      rw [if_pos h] at hs
      have HS : Hid _ := hs
      clear hs HSU h
      (refine runO_coll (t := 41) Try.underlying41 sz3 by3 zr3 rfl (by simp only [go_sem, *]; exact ca) (by simp only [go_sem, *]; rfl) (intsC_all _) (by simp) (by (try simp only [List.length_range, List.length_map, List.length_take, List.length_cons, List.length_nil, List.length_append, go_sem]); omega) (by (try simp only [maxLen, List.length_range, List.length_map, List.length_take, List.length_cons, List.length_nil, List.length_append, go_sem]); omega) (fun d1 H1 hc1 => ?_); (with_reducible apply runO_go); simp only [go_sem, *])
      repeat' (first
    | (with_reducible apply run_inBlock)
    | ((with_reducible apply run_go); simp only [go_sem, *]))
      refine IHa.out (8 - (k + 1)) _ _ (by omega) ⟨k + 1, by omega, rfl, (by simp only [go_sem, *]), (by simp only [go_sem, *]), ?_⟩
      simp only [go_sem]
      rw [HS.out, intsC_snoc]
      exact hc1
    · rename_i h
      rw [decide_eq_false_iff_not, bits_law s hlt] at h
      have hs := HSU.out
      rw [if_neg h] at hs
      have HS : Hid _ := hs
      clear hs HSU h
      refine IHa.out (8 - (k + 1)) _ _ (by omega) ⟨k + 1, by omega, rfl, (by simp only [go_sem, *]), (by simp only [go_sem, *]), ?_⟩
      rw [HS.out]
      simp only [go_sem, *]
  · obtain rfl : k = 8 := by omega
    have hfl := ca.flat
    repeat' (first
    | (with_reducible apply run_seq)
    | (with_reducible apply run_exit rfl)
    | ((with_reducible apply run_go); simp only [go_sem, *])
    | ((with_reducible apply run_cond_f); (focus (simp only [go_sem, *]; done)))
    | ((with_reducible apply run_ret Try.func12 res12 (H' := H)); (focus (simp only [go_sem, *]; rfl)); (focus trivial); (focus (repeat (first | assumption | exact Heap.sub_refl _ | refine Heap.sub_congr ?_ | refine Heap.sub_set ?_ (by assumption) | refine Heap.sub_set2 ?_ (by first | assumption | (simp only [*]; done) | (simp only [Heap.set_none', ne_eq, *, not_false_eq_true, and_self]; done)))))))
    exact ⟨rfl, rfl⟩
theorem in_call (W : World) (H : Heap) (l : List Int) (x : Int) (hl : l.length ≤ 1000000) :
    CallA Try.prog W 40 [.list (intsC l), .v (.int .i64 x)] H fun r H' => r = .v (.bool (decide (x ∈ l))) ∧ H' = H := by
  refine call_in Try.func40 rfl Try.ntmps40 (by simp) ?_
  repeat' (first
    | (with_reducible apply run_seq)
    | (with_reducible apply run_block)
    | ((with_reducible apply run_go); simp only [go_sem, *]))
  refine run_loop (fun na ea Ha => ∃ (k : Nat), k ≤ l.length ∧ na = l.length - k ∧ (x ∉ l.take k) ∧ ea 0 = .list (intsC l) ∧ ea 1 = .v (.int .i64 x) ∧ ea 5 = .v (.int .i64 (k : Int)) ∧ H = Ha) (l.length)
      ⟨0, Nat.zero_le _, rfl, (by simp), (by simp only [go_sem, *]), (by simp only [go_sem, *]), (by simp only [go_sem] <;> rfl), rfl⟩ ?_
  rintro na ea Ha ih ⟨k, ak, rfl, va0, as0, as1, as5, rfl⟩
  have IHa : Hid _ := ih
  clear ih
  have Ia0 : Hid _ := va0
  clear va0
  by_cases hlt : k < l.length
  · have hw := wrap_succ (k := k) (by omega)
    by_cases hx : l.getD k default = x
    · have hm : x ∈ l := by rw [← hx, List.getD_eq_getElem?_getD, List.getElem?_eq_getElem hlt]; exact List.getElem_mem _
      repeat' (first
    | (with_reducible apply run_seq)
    | (with_reducible apply run_block)
    | (with_reducible apply run_skip)
    | ((with_reducible apply run_go); simp only [go_sem, *])
    | ((with_reducible apply run_cond_t); (focus (simp only [go_sem, *]; done)))
    | ((with_reducible apply run_ret Try.func40 res40 (H' := H)); (focus (simp only [go_sem, *]; rfl)); (focus trivial); (focus (repeat (first | assumption | exact Heap.sub_refl _ | refine Heap.sub_congr ?_ | refine Heap.sub_set ?_ (by assumption) | refine Heap.sub_set2 ?_ (by first | assumption | (simp only [*]; done) | (simp only [Heap.set_none', ne_eq, *, not_false_eq_true, and_self]; done)))))))
      exact ⟨rfl, rfl⟩
    · repeat' (first
    | (with_reducible apply run_seq)
    | (with_reducible apply run_block)
    | (with_reducible apply run_inBlock)
    | (with_reducible apply run_skip)
    | ((with_reducible apply run_go); simp only [go_sem, *])
    | ((with_reducible apply run_cond_t); (focus (simp only [go_sem, *]; done)))
    | ((with_reducible apply run_cond_f); (focus (simp only [go_sem, *]; done))))
      refine IHa.out (l.length - (k + 1)) _ _ (by omega) ⟨k + 1, by omega, rfl, (by rw [take_succ_getD _ _ hlt, List.mem_append, List.mem_singleton]; rintro (h | h); exact Ia0.out h; exact hx h.symm), (by simp only [go_sem, *]), (by simp only [go_sem, *]), (by simp only [go_sem, *]), rfl⟩
  · obtain rfl : k = l.length := by omega
    have hm : x ∉ l := by have := Ia0.out; rwa [List.take_length] at this
    repeat' (first
    | (with_reducible apply run_seq)
    | (with_reducible apply run_exit rfl)
    | ((with_reducible apply run_go); simp only [go_sem, *])
    | ((with_reducible apply run_cond_f); (focus (simp only [go_sem, *]; done)))
    | ((with_reducible apply run_ret Try.func40 res40 (H' := H)); (focus (simp only [go_sem, *]; rfl)); (focus trivial); (focus (repeat (first | assumption | exact Heap.sub_refl _ | refine Heap.sub_congr ?_ | refine Heap.sub_set ?_ (by assumption) | refine Heap.sub_set2 ?_ (by first | assumption | (simp only [*]; done) | (simp only [Heap.set_none', ne_eq, *, not_false_eq_true, and_self]; done)))))))
    exact ⟨rfl, rfl⟩
end Go.Proofs.Ytcfeklnmampndaa
