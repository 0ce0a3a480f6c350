/-
  Contracts: a thread's bytes, read.
-/
import Derived.Test.YtkoechchjiddhaaPgE
set_option linter.unusedSimpArgs false
set_option linter.unusedVariables false
namespace Go.Proofs.Ytkoechchjiddhaa
open Go Go.Sn Go.RowKit

def sg (d : UInt8) : Int := if 127 < d.toNat then (d.toNat : Int) - 256 else (d.toNat : Int)
theorem sg_wrap (d : UInt8) : IntKind.i64.wrap (IntKind.i8.wrap (d.toNat : Int)) = sg d := by
  have := d.toNat_lt
  unfold sg
  have h8 : IntKind.i8.wrap (d.toNat : Int) = if 127 < d.toNat then (d.toNat : Int) - 256 else (d.toNat : Int) := by
    have h1 : (d.toNat : Int) % 2 ^ 8 = (d.toNat : Int) := by omega
    unfold IntKind.wrap
    simp only [IntKind.bits, IntKind.signed, h1]
    by_cases h : 127 < d.toNat
    · rw [if_pos h, if_pos (by simp; omega)]
      rfl
    · rw [if_neg h, if_neg (by simp; omega)]
  rw [h8]
  split <;> exact wrapP (by omega) (by omega)
def inOf (a b c d : UInt8) : In := ⟨(a.toNat : Int), (b.toNat : Int), (c.toNat : Int), sg d⟩
def chunk : Nat → List UInt8 → List In
  | 0, _ => []
  | n + 1, s => inOf (s.getD 0 0) (s.getD 1 0) (s.getD 2 0) (s.getD 3 0) :: chunk n (s.drop 4)
theorem chunk_snoc : ∀ (n : Nat) (s : List UInt8), chunk (n + 1) s = chunk n s ++ [inOf ((s.drop (4 * n)).getD 0 0) ((s.drop (4 * n)).getD 1 0) ((s.drop (4 * n)).getD 2 0) ((s.drop (4 * n)).getD 3 0)]
  | 0, s => by simp [chunk]
  | n + 1, s => by
    have ih := chunk_snoc n (s.drop 4)
    rw [chunk, ih]
    simp only [chunk, List.cons_append, List.drop_drop]
    rw [show 4 + 4 * n = 4 * (n + 1) by omega]
theorem chunk_len : ∀ (n : Nat) (s : List UInt8), (chunk n s).length = n
  | 0, _ => rfl
  | n + 1, s => by simp [chunk, chunk_len n]

def thN (s : List UInt8) : Nat := (s.getD 0 0).toNat
def thErr (s : List UInt8) : Int := if s = [] then 4 else if 8 < thN s then 3 else if (s.drop 1).length < 4 * thN s then 4 else 0
def thCode (s : List UInt8) : List In := if thErr s = 0 then chunk (thN s) (s.drop 1) else []
def thRest (s : List UInt8) : List UInt8 := if s = [] then [] else if thErr s = 0 then (s.drop 1).drop (4 * thN s) else s.drop 1


set_option maxHeartbeats 4000000 in
theorem thread_call (W : World) (H : Heap) (s : List UInt8) (hs : s.length ≤ 1000000) :
    CallA Try.prog W 30 [.v (.string (strL s))] H fun r H' => r = .tup [.list (insC (thCode s)), .v (.string (strL (thRest s))), .v (.int .i64 (thErr s))] ∧ H' = H := by
  refine call_in Try.func30 rfl Try.ntmps30 (by simp) ?_
  by_cases h0 : s = []
  · subst h0
    repeat' (first
    | (with_reducible apply run_seq)
    | (with_reducible apply run_block)
    | (with_reducible apply run_inBlock)
    | (with_reducible apply run_skip)
    | (with_reducible apply run_exit rfl)
    | ((with_reducible apply run_go); simp only [go_sem, *])
    | ((with_reducible apply run_drawGo Cl.zero Cl.zero_plain mixed); (focus kernel_rfl); simp only [go_sem, *])
    | ((with_reducible apply run_cond_t); (focus (simp only [go_sem, *]; done)))
    | ((with_reducible apply run_cond_f); (focus (simp only [go_sem, *]; done)))
    | ((with_reducible apply run_cond); (focus (simp only [go_sem, *]; rfl)); (all_goals intro _))
    | ((first | (with_reducible apply runA_and) | (with_reducible apply runO_and) | (with_reducible apply runD_and)); (focus (first | assumption | (simp only [go_sem, *]; done) | (simp only [go_sem, *]; assumption))); (try simp only [go_sem, *]))
    | ((with_reducible apply run_ret Try.func30 res30 (H' := H)); (focus (simp only [go_sem, *]; rfl)); (focus trivial); (focus (repeat (first | assumption | exact Heap.sub_refl _ | refine Heap.sub_congr ?_ | refine Heap.sub_set ?_ (by assumption) | refine Heap.sub_set2 ?_ (by first | assumption | (simp only [*]; done) | (simp only [Heap.set_none', ne_eq, *, not_false_eq_true, and_self]; done)))))))
    exact ⟨rfl, rfl⟩
  · have hpos : 0 < s.length := List.length_pos_iff.2 h0
    have ht1 := strL_tail s 1
    obtain ⟨n, hn⟩ : ∃ n : Nat, n = thN s := ⟨_, rfl⟩
    have hnn : (s.getD 0 0).toNat = n := hn.symm
    have hn256 : n < 256 := by have := (s.getD 0 0).toNat_lt; omega
    have hwn : IntKind.i64.wrap (n : Int) = (n : Int) := wrapP (by omega) (by omega)
    have hwm : IntKind.i64.wrap ((n : Int) * 4) = ((4 * n : Nat) : Int) := by rw [wrapP (by omega) (by omega)]; omega
    have hp0 : (0 : Int) < (s.length : Int) := by omega
    have hp1 : (1 : Int) ≤ (s.length : Int) := by omega
    have hE : Hid (thErr s = if 8 < n then 3 else if (s.drop 1).length < 4 * n then 4 else 0) := by show thErr s = _; unfold thErr; rw [if_neg h0, hn]
    have hR : Hid (thRest s = if thErr s = 0 then (s.drop 1).drop (4 * n) else s.drop 1) := by show thRest s = _; unfold thRest; rw [if_neg h0, hn]
    have hC : Hid (thCode s = if thErr s = 0 then chunk n (s.drop 1) else []) := by show thCode s = _; unfold thCode; rw [hn]
    clear hn
    by_cases h8 : 8 < n
    · have h8' : (8 : Int) < (n : Int) := by omega
      have he : thErr s = 3 := by rw [hE.out, if_pos h8]
      have hr : thRest s = s.drop 1 := by rw [hR.out, he]; rfl
      have hc : thCode s = [] := by rw [hC.out, he]; rfl
      repeat' (first
    | (with_reducible apply run_seq)
    | (with_reducible apply run_block)
    | (with_reducible apply run_inBlock)
    | (with_reducible apply run_skip)
    | (with_reducible apply run_exit rfl)
    | ((with_reducible apply run_go); simp only [go_sem, *])
    | ((with_reducible apply run_drawGo Cl.zero Cl.zero_plain mixed); (focus kernel_rfl); simp only [go_sem, *])
    | ((with_reducible apply run_cond_t); (focus (simp only [go_sem, *]; done)))
    | ((with_reducible apply run_cond_f); (focus (simp only [go_sem, *]; done)))
    | ((with_reducible apply run_cond); (focus (simp only [go_sem, *]; rfl)); (all_goals intro _))
    | ((first | (with_reducible apply runA_and) | (with_reducible apply runO_and) | (with_reducible apply runD_and)); (focus (first | assumption | (simp only [go_sem, *]; done) | (simp only [go_sem, *]; assumption))); (try simp only [go_sem, *]))
    | ((with_reducible apply run_ret Try.func30 res30 (H' := H)); (focus (simp only [go_sem, *]; rfl)); (focus trivial); (focus (repeat (first | assumption | exact Heap.sub_refl _ | refine Heap.sub_congr ?_ | refine Heap.sub_set ?_ (by assumption) | refine Heap.sub_set2 ?_ (by first | assumption | (simp only [*]; done) | (simp only [Heap.set_none', ne_eq, *, not_false_eq_true, and_self]; done)))))))
      exact ⟨rfl, rfl⟩
    · have h8' : ¬ (8 : Int) < (n : Int) := by omega
      generalize hS : s.drop 1 = S at *
      have hSl : S.length + 1 = s.length := by rw [← hS, List.length_drop]; omega
      by_cases hlen : S.length < 4 * n
      · have hlen' : (S.length : Int) < ((4 * n : Nat) : Int) := by omega
        have he : thErr s = 4 := by rw [hE.out, if_neg h8, if_pos hlen]
        have hr : thRest s = S := by rw [hR.out, he]; rfl
        have hc : thCode s = [] := by rw [hC.out, he]; rfl
        repeat' (first
    | (with_reducible apply run_seq)
    | (with_reducible apply run_block)
    | (with_reducible apply run_inBlock)
    | (with_reducible apply run_skip)
    | (with_reducible apply run_exit rfl)
    | ((with_reducible apply run_go); simp only [go_sem, *])
    | ((with_reducible apply run_drawGo Cl.zero Cl.zero_plain mixed); (focus kernel_rfl); simp only [go_sem, *])
    | ((with_reducible apply run_cond_t); (focus (simp only [go_sem, *]; done)))
    | ((with_reducible apply run_cond_f); (focus (simp only [go_sem, *]; done)))
    | ((with_reducible apply run_cond); (focus (simp only [go_sem, *]; rfl)); (all_goals intro _))
    | ((first | (with_reducible apply runA_and) | (with_reducible apply runO_and) | (with_reducible apply runD_and)); (focus (first | assumption | (simp only [go_sem, *]; done) | (simp only [go_sem, *]; assumption))); (try simp only [go_sem, *]))
    | ((with_reducible apply run_ret Try.func30 res30 (H' := H)); (focus (simp only [go_sem, *]; rfl)); (focus trivial); (focus (repeat (first | assumption | exact Heap.sub_refl _ | refine Heap.sub_congr ?_ | refine Heap.sub_set ?_ (by assumption) | refine Heap.sub_set2 ?_ (by first | assumption | (simp only [*]; done) | (simp only [Heap.set_none', ne_eq, *, not_false_eq_true, and_self]; done)))))))
        exact ⟨rfl, rfl⟩
      · have hlen' : ¬ (S.length : Int) < ((4 * n : Nat) : Int) := by omega
        have he : thErr s = 0 := by rw [hE.out, if_neg h8, if_neg hlen]
        have hr : thRest s = S.drop (4 * n) := by rw [hR.out, he]; rfl
        have hc : thCode s = chunk n S := by rw [hC.out, he]; rfl
        rw [he, hr, hc]
        clear he hr hc
        repeat' (first
    | (with_reducible apply run_seq)
    | (with_reducible apply run_block)
    | (with_reducible apply run_inBlock)
    | (with_reducible apply run_skip)
    | (with_reducible apply run_exit rfl)
    | ((with_reducible apply run_go); simp only [go_sem, *])
    | ((with_reducible apply run_drawGo Cl.zero Cl.zero_plain mixed); (focus kernel_rfl); simp only [go_sem, *])
    | ((with_reducible apply run_cond_t); (focus (simp only [go_sem, *]; done)))
    | ((with_reducible apply run_cond_f); (focus (simp only [go_sem, *]; done)))
    | ((with_reducible apply run_cond); (focus (simp only [go_sem, *]; rfl)); (all_goals intro _))
    | ((first | (with_reducible apply runA_and) | (with_reducible apply runO_and) | (with_reducible apply runD_and)); (focus (first | assumption | (simp only [go_sem, *]; done) | (simp only [go_sem, *]; assumption))); (try simp only [go_sem, *]))
    | ((with_reducible apply run_ret Try.func30 res30 (H' := H)); (focus (simp only [go_sem, *]; rfl)); (focus trivial); (focus (repeat (first | assumption | exact Heap.sub_refl _ | refine Heap.sub_congr ?_ | refine Heap.sub_set ?_ (by assumption) | refine Heap.sub_set2 ?_ (by first | assumption | (simp only [*]; done) | (simp only [Heap.set_none', ne_eq, *, not_false_eq_true, and_self]; done)))))))
        clear hS ht1 hnn hwm hp0 hp1
        refine run_loop (fun na ea Ha => ∃ (k : Nat), k ≤ n ∧ na = n - k ∧ ea 0 = .v (.string (strL (S.drop (4 * k)))) ∧ ea 25 = .v (.int .i64 (n : Int)) ∧ ea 26 = .v (.int .i64 (k : Int)) ∧ Coll (H) (34) (4) (insC (chunk k S)) (ea 2) Ha) (n)
            ⟨0, Nat.zero_le _, rfl, (by simp only [go_sem, *]), (by simp only [go_sem, *]), (by simp only [go_sem] <;> rfl), (by simp only [go_sem]; exact .none rfl)⟩ ?_
        rintro na ea Ha ih ⟨k, ak, rfl, as0, as25, as26, ca⟩
        generalize hac : ea 2 = da at ca
        have IHa : Hid _ := ih
        clear ih
        by_cases hlt : k < n
        · have hw := wrap_succ (k := k) (by omega)
          have hch := chunk_len k S
          have hsn := chunk_snoc k S
          have hnx : Hid ((S.drop (4 * k)).drop 4 = S.drop (4 * (k + 1))) := by show (S.drop (4 * k)).drop 4 = _; rw [List.drop_drop]; rfl
          have hX : 4 ≤ (S.drop (4 * k)).length := by rw [List.length_drop]; omega
          generalize S.drop (4 * k) = X at *
          have ht4 := strL_tail X 4
          have x0 : (0 : Int) < (X.length : Int) := by omega
          have x1 : (1 : Int) < (X.length : Int) := by omega
          have x2 : (2 : Int) < (X.length : Int) := by omega
          have x3 : (3 : Int) < (X.length : Int) := by omega
          have x4 : (4 : Int) ≤ (X.length : Int) := by omega
          have w0 : IntKind.i64.wrap ((X.getD 0 0).toNat : Int) = ((X.getD 0 0).toNat : Int) := by have := (X.getD 0 0).toNat_lt; exact wrapP (by omega) (by omega)
          have w1 : IntKind.i64.wrap ((X.getD 1 0).toNat : Int) = ((X.getD 1 0).toNat : Int) := by have := (X.getD 1 0).toNat_lt; exact wrapP (by omega) (by omega)
          have w2 : IntKind.i64.wrap ((X.getD 2 0).toNat : Int) = ((X.getD 2 0).toNat : Int) := by have := (X.getD 2 0).toNat_lt; exact wrapP (by omega) (by omega)
          have w3 := sg_wrap (X.getD 3 0)
          repeat' (first
    | (with_reducible apply run_seq)
    | (with_reducible apply run_block)
    | (with_reducible apply run_inBlock)
    | (with_reducible apply run_skip)
    | (with_reducible apply run_exit rfl)
    | ((with_reducible apply run_go); simp only [go_sem, *])
    | ((with_reducible apply run_drawGo Cl.zero Cl.zero_plain mixed); (focus kernel_rfl); simp only [go_sem, *])
    | ((with_reducible apply run_cond_t); (focus (simp only [go_sem, *]; done)))
    | ((with_reducible apply run_cond_f); (focus (simp only [go_sem, *]; done)))
    | ((with_reducible apply run_cond); (focus (simp only [go_sem, *]; rfl)); (all_goals intro _))
    | ((first | (with_reducible apply runA_and) | (with_reducible apply runO_and) | (with_reducible apply runD_and)); (focus (first | assumption | (simp only [go_sem, *]; done) | (simp only [go_sem, *]; assumption))); (try simp only [go_sem, *]))
    | ((with_reducible apply runD_buildSlice); (focus (simp only [go_sem]; rfl)); (focus (simp only [go_sem]; rfl)); (focus (simp only [go_sem]; rfl)); (focus rfl); (focus rfl); (focus (simp only [go_sem, *]; done)); (focus (simp only [go_sem, *]; done)); (focus decide); (with_reducible first | apply runD_go Cl.zero_plain | apply runD_goC); simp only [go_sem, *])
    | ((with_reducible apply run_ret Try.func30 res30 (H' := H)); (focus (simp only [go_sem, *]; rfl)); (focus trivial); (focus (repeat (first | assumption | exact Heap.sub_refl _ | refine Heap.sub_congr ?_ | refine Heap.sub_set ?_ (by assumption) | refine Heap.sub_set2 ?_ (by first | assumption | (simp only [*]; done) | (simp only [Heap.set_none', ne_eq, *, not_false_eq_true, and_self]; done)))))))
          (refine runD_coll (t := 32) Try.underlying32 sz34 by34 zr34 rfl (by simp only [go_sem, *]; exact ca) (by simp only [go_sem, *]; rfl) (insC_all _) (by simp) (by (try simp only [List.length_range, List.length_map, List.length_take, List.length_cons, List.length_nil, List.length_append, go_sem]); omega) (by (try simp only [maxLen, List.length_range, List.length_map, List.length_take, List.length_cons, List.length_nil, List.length_append, go_sem]); omega) (fun d1 H1 hc1 => ?_); (with_reducible first | apply runD_go Cl.zero_plain | apply runD_goC); simp only [go_sem, *])
          repeat' (first
    | (with_reducible apply run_seq)
    | (with_reducible apply run_block)
    | (with_reducible apply run_inBlock)
    | (with_reducible apply run_skip)
    | (with_reducible apply run_exit rfl)
    | ((with_reducible apply run_go); simp only [go_sem, *])
    | ((with_reducible apply run_drawGo Cl.zero Cl.zero_plain mixed); (focus kernel_rfl); simp only [go_sem, *])
    | ((with_reducible apply run_cond_t); (focus (simp only [go_sem, *]; done)))
    | ((with_reducible apply run_cond_f); (focus (simp only [go_sem, *]; done)))
    | ((with_reducible apply run_cond); (focus (simp only [go_sem, *]; rfl)); (all_goals intro _))
    | ((first | (with_reducible apply runA_and) | (with_reducible apply runO_and) | (with_reducible apply runD_and)); (focus (first | assumption | (simp only [go_sem, *]; done) | (simp only [go_sem, *]; assumption))); (try simp only [go_sem, *]))
    | ((with_reducible apply run_ret Try.func30 res30 (H' := H)); (focus (simp only [go_sem, *]; rfl)); (focus trivial); (focus (repeat (first | assumption | exact Heap.sub_refl _ | refine Heap.sub_congr ?_ | refine Heap.sub_set ?_ (by assumption) | refine Heap.sub_set2 ?_ (by first | assumption | (simp only [*]; done) | (simp only [Heap.set_none', ne_eq, *, not_false_eq_true, and_self]; done)))))))
          have hnx' := hnx.out
          have HS : Hid (chunk (k + 1) S = chunk k S ++ [inOf (X.getD 0 0) (X.getD 1 0) (X.getD 2 0) (X.getD 3 0)]) := hsn
          clear hsn
          refine IHa.out (n - (k + 1)) _ _ (by omega) ⟨k + 1, by omega, rfl, (by simp only [go_sem, *]), (by simp only [go_sem, *]), (by simp only [go_sem, *]), ?_⟩
          simp only [go_sem]
          rw [HS.out, insC_snoc]
          exact hc1
        · obtain rfl : k = n := by omega
          have hfl := ca.flat
          have hsub := ca.sub
          repeat' (first
    | (with_reducible apply run_seq)
    | (with_reducible apply run_block)
    | (with_reducible apply run_inBlock)
    | (with_reducible apply run_skip)
    | (with_reducible apply run_exit rfl)
    | ((with_reducible apply run_go); simp only [go_sem, *])
    | ((with_reducible apply run_drawGo Cl.zero Cl.zero_plain mixed); (focus kernel_rfl); simp only [go_sem, *])
    | ((with_reducible apply run_cond_t); (focus (simp only [go_sem, *]; done)))
    | ((with_reducible apply run_cond_f); (focus (simp only [go_sem, *]; done)))
    | ((with_reducible apply run_cond); (focus (simp only [go_sem, *]; rfl)); (all_goals intro _))
    | ((first | (with_reducible apply runA_and) | (with_reducible apply runO_and) | (with_reducible apply runD_and)); (focus (first | assumption | (simp only [go_sem, *]; done) | (simp only [go_sem, *]; assumption))); (try simp only [go_sem, *]))
    | ((with_reducible apply run_ret Try.func30 res30 (H' := H)); (focus (simp only [go_sem, *]; rfl)); (focus trivial); (focus (repeat (first | assumption | exact Heap.sub_refl _ | refine Heap.sub_congr ?_ | refine Heap.sub_set ?_ (by assumption) | refine Heap.sub_set2 ?_ (by first | assumption | (simp only [*]; done) | (simp only [Heap.set_none', ne_eq, *, not_false_eq_true, and_self]; done)))))))
          exact ⟨rfl, rfl⟩
end Go.Proofs.Ytkoechchjiddhaa
