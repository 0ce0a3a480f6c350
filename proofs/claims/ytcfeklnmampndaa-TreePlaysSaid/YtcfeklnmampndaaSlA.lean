/-
  Contracts: sets of threads.
-/
import Derived.Test.YtcfeklnmampndaaSaI
set_option linter.unusedSimpArgs false
set_option linter.unusedVariables false
namespace Go.Proofs.Ytcfeklnmampndaa
open Go Go.Sn Go.RowKit

/-- A thread's bit. -/
def bitE (t : Int) : BitVec 8 := if 0 ≤ t ∧ t < 8 then 1#8 <<< t.toNat else 0#8
/-- Is one among them? -/
def hasE (s : BitVec 8) (t : Int) : Bool := decide (¬ s &&& bitE t = 0#8)
/-- Which ones, rising. -/
def allB (s : BitVec 8) (k : Nat) : List Int := ((List.range k).filter fun j : Nat => hasE s (j : Int)).map fun j : Nat => (j : Int)
def lenB (s : BitVec 8) : Nat := (allB s 8).length
def ofB (l : List Int) : BitVec 8 := l.foldl (fun s t => s ||| bitE t) 0#8

@[go_sem] theorem u8_of (s : BitVec 8) : BitVec.ofInt 8 (s.toNat : Int) = s := by
  apply BitVec.eq_of_toNat_eq
  have := s.isLt
  simp [BitVec.toNat_ofInt]
@[go_sem] theorem u8_wrap (s : BitVec 8) : IntKind.u8.wrap (s.toNat : Int) = (s.toNat : Int) := by
  have := s.isLt
  simp only [IntKind.wrap, IntKind.bits, IntKind.signed]
  simp
  omega
@[go_sem] theorem u8_or (s t : BitVec 8) : @HOr.hOr (BitVec IntKind.u8.bits) (BitVec IntKind.u8.bits) (BitVec IntKind.u8.bits) instHOrOfOrOp s t = (s ||| t : BitVec 8) := rfl
@[go_sem] theorem u8_and (s t : BitVec 8) : @HAnd.hAnd (BitVec IntKind.u8.bits) (BitVec IntKind.u8.bits) (BitVec IntKind.u8.bits) instHAndOfAndOp s t = (s &&& t : BitVec 8) := rfl
@[go_sem] theorem u8_not (s : BitVec 8) : @Complement.complement (BitVec IntKind.u8.bits) _ s = (~~~ s : BitVec 8) := rfl
@[go_sem] theorem u8_nat (s : BitVec 8) : @BitVec.toNat IntKind.u8.bits s = @BitVec.toNat 8 s := rfl
theorem u8_eq (s t : BitVec 8) : ((s.toNat : Int) = (t.toNat : Int)) ↔ s = t := by
  rw [Int.natCast_inj]
  exact ⟨BitVec.eq_of_toNat_eq, fun e => by rw [e]⟩
theorem u8_zero (s : BitVec 8) : ((s.toNat : Int) = 0) ↔ s = 0#8 := u8_eq s 0#8

theorem bit_call (W : World) (H : Heap) (t : Int) :
    CallA Try.prog W 53 [.v (.int .i64 t)] H fun r H' => r = .v (.int .u8 ((bitE t).toNat : Int)) ∧ H' = H := by
  refine call_in Try.func53 rfl Try.ntmps53 (by simp) ?_
  by_cases h0 : t < 0
  · repeat' (first
    | (with_reducible apply run_seq)
    | ((with_reducible apply run_go); simp only [go_sem, *])
    | ((with_reducible apply run_cond_t); (focus (simp only [go_sem, *]; done)))
    | ((with_reducible apply run_ret Try.func53 res53 (H' := H)); (focus (simp only [go_sem, *]; rfl)); (focus trivial); (focus (repeat (first | assumption | exact Heap.sub_refl _ | refine Heap.sub_congr ?_ | refine Heap.sub_set ?_ (by assumption) | refine Heap.sub_set2 ?_ (by first | assumption | (simp only [*]; done) | (simp only [Heap.set_none', ne_eq, *, not_false_eq_true, and_self]; done)))))))
    refine ⟨?_, rfl⟩
    have : bitE t = 0#8 := if_neg (by omega)
    rw [this]
    rfl
  · by_cases h8 : 8 ≤ t
    · repeat' (first
    | (with_reducible apply run_seq)
    | ((with_reducible apply run_go); simp only [go_sem, *])
    | ((with_reducible apply run_cond_t); (focus (simp only [go_sem, *]; done)))
    | ((with_reducible apply run_ret Try.func53 res53 (H' := H)); (focus (simp only [go_sem, *]; rfl)); (focus trivial); (focus (repeat (first | assumption | exact Heap.sub_refl _ | refine Heap.sub_congr ?_ | refine Heap.sub_set ?_ (by assumption) | refine Heap.sub_set2 ?_ (by first | assumption | (simp only [*]; done) | (simp only [Heap.set_none', ne_eq, *, not_false_eq_true, and_self]; done)))))))
      refine ⟨?_, rfl⟩
      have : bitE t = 0#8 := if_neg (by omega)
      rw [this]
      rfl
    · have ht0 : 0 ≤ t := by omega
      repeat' (first
    | (with_reducible apply run_seq)
    | (with_reducible apply run_skip)
    | ((with_reducible apply run_go); simp only [go_sem, *])
    | ((with_reducible apply run_cond_f); (focus (simp only [go_sem, *]; done)))
    | ((with_reducible apply run_ret Try.func53 res53 (H' := H)); (focus (simp only [go_sem, *]; rfl)); (focus trivial); (focus (repeat (first | assumption | exact Heap.sub_refl _ | refine Heap.sub_congr ?_ | refine Heap.sub_set ?_ (by assumption) | refine Heap.sub_set2 ?_ (by first | assumption | (simp only [*]; done) | (simp only [Heap.set_none', ne_eq, *, not_false_eq_true, and_self]; done)))))))
      refine ⟨?_, rfl⟩
      obtain rfl | rfl | rfl | rfl | rfl | rfl | rfl | rfl : t = 0 ∨ t = 1 ∨ t = 2 ∨ t = 3 ∨ t = 4 ∨ t = 5 ∨ t = 6 ∨ t = 7 := by omega
      all_goals (simp only [tupA]; congr 2)
theorem setHas_call (W : World) (H : Heap) (s : BitVec 8) (t : Int) :
    CallA Try.prog W 34 [.v (.int .u8 (s.toNat : Int)), .v (.int .i64 t)] H fun r H' => r = .v (.bool (hasE s t)) ∧ H' = H := by
  refine call_in Try.func34 rfl Try.ntmps34 (by simp) ?_
  repeat' (first
    | (with_reducible apply run_seq)
    | ((with_reducible apply run_go); simp only [go_sem, *])
    | ((with_reducible apply runO_callF known53); simp only [go_sem, *]; refine (bit_call W _ t).use ?_; (with_reducible apply runO_go); simp only [go_sem, *])
    | ((with_reducible apply run_ret Try.func34 res34 (H' := H)); (focus (simp only [go_sem, *]; rfl)); (focus trivial); (focus (repeat (first | assumption | exact Heap.sub_refl _ | refine Heap.sub_congr ?_ | refine Heap.sub_set ?_ (by assumption) | refine Heap.sub_set2 ?_ (by first | assumption | (simp only [*]; done) | (simp only [Heap.set_none', ne_eq, *, not_false_eq_true, and_self]; done)))))))
  refine ⟨vb ?_, rfl⟩
  unfold hasE
  rw [Bool.eq_iff_iff]
  have := u8_zero (s &&& bitE t)
  simp only [Bool.not_eq_true', decide_eq_false_iff_not, decide_eq_true_eq]
  exact not_congr this
theorem setUnion_call (W : World) (H : Heap) (s t : BitVec 8) :
    CallA Try.prog W 41 [.v (.int .u8 (s.toNat : Int)), .v (.int .u8 (t.toNat : Int))] H fun r H' => r = .v (.int .u8 ((s ||| t).toNat : Int)) ∧ H' = H := by
  refine call_in Try.func41 rfl Try.ntmps41 (by simp) ?_
  repeat' (first
    | (with_reducible apply run_seq)
    | ((with_reducible apply run_go); simp only [go_sem, *])
    | ((with_reducible apply run_ret Try.func41 res41 (H' := H)); (focus (simp only [go_sem, *]; rfl)); (focus trivial); (focus (repeat (first | assumption | exact Heap.sub_refl _ | refine Heap.sub_congr ?_ | refine Heap.sub_set ?_ (by assumption) | refine Heap.sub_set2 ?_ (by first | assumption | (simp only [*]; done) | (simp only [Heap.set_none', ne_eq, *, not_false_eq_true, and_self]; done)))))))
  exact ⟨rfl, rfl⟩
theorem setWith_call (W : World) (H : Heap) (s : BitVec 8) (t : Int) :
    CallA Try.prog W 45 [.v (.int .u8 (s.toNat : Int)), .v (.int .i64 t)] H fun r H' => r = .v (.int .u8 ((s ||| bitE t).toNat : Int)) ∧ H' = H := by
  refine call_in Try.func45 rfl Try.ntmps45 (by simp) ?_
  repeat' (first
    | (with_reducible apply run_seq)
    | ((with_reducible apply run_go); simp only [go_sem, *])
    | ((with_reducible apply runO_callF known53); simp only [go_sem, *]; refine (bit_call W _ t).use ?_; (with_reducible apply runO_go); simp only [go_sem, *])
    | ((with_reducible apply run_ret Try.func45 res45 (H' := H)); (focus (simp only [go_sem, *]; rfl)); (focus trivial); (focus (repeat (first | assumption | exact Heap.sub_refl _ | refine Heap.sub_congr ?_ | refine Heap.sub_set ?_ (by assumption) | refine Heap.sub_set2 ?_ (by first | assumption | (simp only [*]; done) | (simp only [Heap.set_none', ne_eq, *, not_false_eq_true, and_self]; done)))))))
  exact ⟨rfl, rfl⟩
theorem setWithout_call (W : World) (H : Heap) (s : BitVec 8) (t : Int) :
    CallA Try.prog W 60 [.v (.int .u8 (s.toNat : Int)), .v (.int .i64 t)] H fun r H' => r = .v (.int .u8 ((s &&& ~~~ bitE t).toNat : Int)) ∧ H' = H := by
  refine call_in Try.func60 rfl Try.ntmps60 (by simp) ?_
  repeat' (first
    | (with_reducible apply run_seq)
    | ((with_reducible apply run_go); simp only [go_sem, *])
    | ((with_reducible apply runO_callF known53); simp only [go_sem, *]; refine (bit_call W _ t).use ?_; (with_reducible apply runO_go); simp only [go_sem, *])
    | ((with_reducible apply run_ret Try.func60 res60 (H' := H)); (focus (simp only [go_sem, *]; rfl)); (focus trivial); (focus (repeat (first | assumption | exact Heap.sub_refl _ | refine Heap.sub_congr ?_ | refine Heap.sub_set ?_ (by assumption) | refine Heap.sub_set2 ?_ (by first | assumption | (simp only [*]; done) | (simp only [Heap.set_none', ne_eq, *, not_false_eq_true, and_self]; done)))))))
  exact ⟨rfl, rfl⟩
theorem allB_succ (s : BitVec 8) (k : Nat) : allB s (k + 1) = if hasE s (k : Int) then allB s k ++ [(k : Int)] else allB s k := by
  unfold allB
  rw [List.range_succ, List.filter_append, List.map_append]
  cases h : hasE s (k : Int) <;> simp [h]
theorem allB_len (s : BitVec 8) (k : Nat) : (allB s k).length ≤ k := by
  unfold allB
  rw [List.length_map]
  exact Nat.le_trans (List.length_filter_le _ _) (by rw [List.length_range]; exact Nat.le_refl _)
theorem setAll_call (W : World) (H : Heap) (s : BitVec 8) :
    CallA Try.prog W 20 [.v (.int .u8 (s.toNat : Int))] H fun r H' => r = .list (intsC (allB s 8)) ∧ H' = H := by
  refine call_in Try.func20 rfl Try.ntmps20 (by simp) ?_
  repeat' (first
    | (with_reducible apply run_seq)
    | (with_reducible apply run_block)
    | ((with_reducible apply run_go); simp only [go_sem, *]))
  refine run_loop (fun na ea Ha => ∃ (k : Nat), k ≤ 8 ∧ na = 8 - k ∧ ea 0 = .v (.int .u8 (s.toNat : Int)) ∧ ea 4 = .v (.int .i64 (k : Int)) ∧ Coll (H) (3) (1) (intsC (allB s k)) (ea 2) Ha) (8)
      ⟨0, Nat.zero_le _, rfl, (by simp only [go_sem, *]), (by simp only [go_sem] <;> rfl), (by simp only [go_sem]; exact .none rfl)⟩ ?_
  rintro na ea Ha ih ⟨k, ak, rfl, as0, as4, ca⟩
  generalize hac : ea 2 = da at ca
  have IHa : Hid _ := ih
  clear ih
  have hsub := ca.sub
  by_cases hlt : k < 8
  · have hw := wrap_succ (k := k) (by omega)
    have hlt' : (k : Int) < 8 := by omega
    have c1 := fun H => setHas_call W H s (k : Int)
    have hak := allB_len s k
    have hsu := allB_succ s k
    cases hm : hasE s (k : Int) with
    | true =>
      rw [hm] at c1 hsu
      rw [if_pos rfl] at hsu
      have HSU : Hid _ := hsu
      clear hsu
      repeat' (first
    | (with_reducible apply run_seq)
    | (with_reducible apply run_block)
    | (with_reducible apply run_skip)
    | ((with_reducible apply run_go); simp only [go_sem, *])
    | ((with_reducible apply run_cond_t); (focus (simp only [go_sem, *]; done)))
    | ((with_reducible apply runO_callF known34); simp only [go_sem, *]; refine (c1 _).use ?_; (with_reducible apply runO_go); simp only [go_sem, *])
    | ((with_reducible apply runO_buildSlice); (focus (simp only [go_sem]; rfl)); (focus (simp only [go_sem]; rfl)); (focus (simp only [go_sem]; rfl)); (focus rfl); (focus rfl); (focus (simp only [go_sem, *]; done)); (focus (simp only [go_sem, *]; done)); (focus decide); (with_reducible apply runO_go); simp only [go_sem, *]))
      (refine runO_coll (t := 41) Try.underlying41 sz3 by3 zr3 rfl (by simp only [go_sem, *]; exact ca) (by simp only [go_sem, *]; rfl) (intsC_all _) (by simp) (by (try simp only [List.length_range, List.length_map, List.length_take, List.length_cons, List.length_nil, List.length_append, go_sem]); omega) (by (try simp only [maxLen, List.length_range, List.length_map, List.length_take, List.length_cons, List.length_nil, List.length_append, go_sem]); omega) (fun d1 H1 hc1 => ?_); (with_reducible apply runO_go); simp only [go_sem, *])
      repeat' (first
    | (with_reducible apply run_inBlock)
    | ((with_reducible apply run_go); simp only [go_sem, *]))
      refine IHa.out (8 - (k + 1)) _ _ (by omega) ⟨k + 1, by omega, rfl, (by simp only [go_sem, *]), (by simp only [go_sem, *]), ?_⟩
      simp only [go_sem]
      rw [HSU.out, intsC_snoc]
      exact hc1
    | false =>
      rw [hm] at c1 hsu
      simp only [Bool.false_eq_true, if_false] at hsu
      have HSU : Hid _ := hsu
      clear hsu
      repeat' (first
    | (with_reducible apply run_seq)
    | (with_reducible apply run_block)
    | (with_reducible apply run_inBlock)
    | (with_reducible apply run_skip)
    | ((with_reducible apply run_go); simp only [go_sem, *])
    | ((with_reducible apply run_cond_t); (focus (simp only [go_sem, *]; done)))
    | ((with_reducible apply run_cond_f); (focus (simp only [go_sem, *]; done)))
    | ((with_reducible apply runO_callF known34); simp only [go_sem, *]; refine (c1 _).use ?_; (with_reducible apply runO_go); simp only [go_sem, *]))
      refine IHa.out (8 - (k + 1)) _ _ (by omega) ⟨k + 1, by omega, rfl, (by simp only [go_sem, *]), (by simp only [go_sem, *]), ?_⟩
      rw [HSU.out]
      simp only [go_sem, *]
  · obtain rfl : k = 8 := by omega
    have hfl := ca.flat
    repeat' (first
    | (with_reducible apply run_seq)
    | (with_reducible apply run_exit rfl)
    | ((with_reducible apply run_go); simp only [go_sem, *])
    | ((with_reducible apply run_cond_f); (focus (simp only [go_sem, *]; done)))
    | ((with_reducible apply run_ret Try.func20 res20 (H' := H)); (focus (simp only [go_sem, *]; rfl)); (focus trivial); (focus (repeat (first | assumption | exact Heap.sub_refl _ | refine Heap.sub_congr ?_ | refine Heap.sub_set ?_ (by assumption) | refine Heap.sub_set2 ?_ (by first | assumption | (simp only [*]; done) | (simp only [Heap.set_none', ne_eq, *, not_false_eq_true, and_self]; done)))))))
    exact ⟨rfl, rfl⟩
theorem ofB_snoc (l : List Int) (t : Int) : ofB (l ++ [t]) = ofB l ||| bitE t := by unfold ofB; rw [List.foldl_append]; rfl
theorem setOf_call (W : World) (H : Heap) (l : List Int) (hl : l.length ≤ 1000000) :
    CallA Try.prog W 35 [.list (intsC l)] H fun r H' => r = .v (.int .u8 ((ofB l).toNat : Int)) ∧ H' = H := by
  refine call_in Try.func35 rfl Try.ntmps35 (by simp) ?_
  repeat' (first
    | (with_reducible apply run_seq)
    | (with_reducible apply run_block)
    | ((with_reducible apply run_go); simp only [go_sem, *]))
  refine run_loop (fun na ea Ha => ∃ (k : Nat), k ≤ l.length ∧ na = l.length - k ∧ ea 2 = .v (.int .u8 ((ofB (l.take k)).toNat : Int)) ∧ ea 5 = .list (intsC l) ∧ ea 6 = .v (.int .i64 (l.length : Int)) ∧ ea 7 = .v (.int .i64 (k : Int)) ∧ H = Ha) (l.length)
      ⟨0, Nat.zero_le _, rfl, (by simp only [go_sem] <;> rfl), (by simp only [go_sem, *]), (by simp only [go_sem, *]), (by simp only [go_sem] <;> rfl), rfl⟩ ?_
  rintro na ea Ha ih ⟨k, ak, rfl, as2, as5, as6, as7, rfl⟩
  have IHa : Hid _ := ih
  clear ih
  by_cases hlt : k < l.length
  · have hw := wrap_succ (k := k) (by omega)
    have hsu : ofB (l.take (k + 1)) = ofB (l.take k) ||| bitE (l.getD k default) := by rw [take_succ_getD _ _ hlt, ofB_snoc]
    have c1 := fun H => bit_call W H (l.getD k default)
    generalize ofB (l.take k) = s at *
    repeat' (first
    | (with_reducible apply run_seq)
    | (with_reducible apply run_block)
    | (with_reducible apply run_inBlock)
    | (with_reducible apply run_skip)
    | ((with_reducible apply run_go); simp only [go_sem, *])
    | ((with_reducible apply run_cond_t); (focus (simp only [go_sem, *]; done)))
    | ((with_reducible apply runO_callF known53); simp only [go_sem, *]; refine (c1 _).use ?_; (with_reducible apply runO_go); simp only [go_sem, *]))
    refine IHa.out (l.length - (k + 1)) _ _ (by omega) ⟨k + 1, by omega, rfl, (by first | (simp only [go_sem, *]; done) | (simp only [go_sem, *]; rfl)), (by simp only [go_sem, *]), (by simp only [go_sem, *]), (by simp only [go_sem, *]), rfl⟩
  · obtain rfl : k = l.length := by omega
    rw [List.take_length] at as2
    repeat' (first
    | (with_reducible apply run_seq)
    | (with_reducible apply run_exit rfl)
    | ((with_reducible apply run_go); simp only [go_sem, *])
    | ((with_reducible apply run_cond_f); (focus (simp only [go_sem, *]; done)))
    | ((with_reducible apply run_ret Try.func35 res35 (H' := H)); (focus (simp only [go_sem, *]; rfl)); (focus trivial); (focus (repeat (first | assumption | exact Heap.sub_refl _ | refine Heap.sub_congr ?_ | refine Heap.sub_set ?_ (by assumption) | refine Heap.sub_set2 ?_ (by first | assumption | (simp only [*]; done) | (simp only [Heap.set_none', ne_eq, *, not_false_eq_true, and_self]; done)))))))
    exact ⟨rfl, rfl⟩
end Go.Proofs.Ytcfeklnmampndaa
