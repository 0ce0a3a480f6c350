/-
  Contracts: trees that are none; the rows of calls that are played; the answers that the document fixes.
-/
import Derived.Test.YtcfeklnmampndaaTrG
set_option linter.unusedSimpArgs false
set_option linter.unusedVariables false
namespace Go.Proofs.Ytcfeklnmampndaa
open Go Go.Sn Go.RowKit
-- NONE stH_none

/-- A call. -/
structure Cl1 where
  kd : Int
  n : Int
  pf : Ky
  st : BitVec 8
instance : Inhabited Cl1 := ⟨⟨0, 0, [], 0#8⟩⟩
def clC (o : Cl1) : List D := [.v (.int .i64 o.kd), .v (.int .i64 o.n), .v (.string (strL o.pf)), .v (.int .u8 (o.st.toNat : Int))]
@[go_sem] theorem clC_eq (o : Cl1) : clC o = [.v (.int .i64 o.kd), .v (.int .i64 o.n), .v (.string (strL o.pf)), .v (.int .u8 (o.st.toNat : Int))] := rfl
def clsC (l : List Cl1) : List (List D) := l.map clC
@[go_sem] theorem clsC_length (l : List Cl1) : (clsC l).length = l.length := by simp [clsC]
@[go_sem] theorem clsC_get (l : List Cl1) (n : Nat) (h : n < l.length) : (clsC l).getD n [] = clC (l.getD n default) := by simp [clsC, List.getD, h]
theorem clsC_all (l : List Cl1) : ∀ ds ∈ clsC l, ds.length = 4 := by intro ds h; simp only [clsC, List.mem_map] at h; obtain ⟨n, _, rfl⟩ := h; rfl
def fewO (l : List Cl1) : Bool := l.all (fun o => decide (o.pf.length ≤ 40)) && decide (l.length ≤ 100)
theorem fewO_call (W : World) (H : Heap) (l : List Cl1) (hl : l.length ≤ 4000000000000000) :
    CallA Try.prog W 9 [.list (clsC l)] H fun r H' => r = .v (.bool (fewO l)) ∧ H' = H := by
  refine call_in Try.func9 rfl Try.ntmps9 (by simp) ?_
  have hal := clsC_all l
  unfold fewO
  repeat' (first
    | (with_reducible apply run_seq)
    | (with_reducible apply run_block)
    | ((with_reducible apply run_go); simp only [go_sem, *]))
  refine run_loop (fun na ea Ha => ∃ (k : Nat), k ≤ l.length ∧ na = l.length - k ∧ ((l.take k).all (fun o => decide (o.pf.length ≤ 40)) = true) ∧ ea 0 = .list (clsC l) ∧ ea 5 = .list (clsC l) ∧ ea 6 = .v (.int .i64 (l.length : Int)) ∧ ea 7 = .v (.int .i64 (k : Int)) ∧ H = Ha) (l.length)
      ⟨0, Nat.zero_le _, rfl, (by simp), (by simp only [go_sem, *]), (by simp only [go_sem, *]), (by simp only [go_sem, *]), (by simp only [go_sem] <;> rfl), rfl⟩ ?_
  rintro na ea Ha ih ⟨k, ak, rfl, va0, as0, as5, as6, as7, rfl⟩
  have IHa : Hid _ := ih
  clear ih
  have Ia0 : Hid _ := va0
  clear va0
  by_cases hlt : k < l.length
  · have hw := wrap_succ (k := k) (by omega)
    generalize ho : l.getD k default = o at *
    by_cases hp : o.pf.length ≤ 40
    · have hp' : ¬ (40 : Int) < (o.pf.length : Int) := by omega
      have hn := all_take_succG (p := fun o : Cl1 => decide (o.pf.length ≤ 40)) hlt Ia0.out (by rw [ho]; simpa using hp)
      have HN : Hid _ := hn
      clear hn hp
      repeat' (first
    | (with_reducible apply run_seq)
    | (with_reducible apply run_block)
    | (with_reducible apply run_inBlock)
    | (with_reducible apply run_skip)
    | ((with_reducible apply run_go); simp only [go_sem, *])
    | ((with_reducible apply run_cond_t); (focus (simp only [go_sem, *]; done)))
    | ((with_reducible apply run_cond_f); (focus (simp only [go_sem, *]; done)))
    | ((with_reducible apply runO_alloc); (focus (simp only [go_sem, *]; rfl)); intro pb hpb; have hfb := Heap.ne_of_none hpb; (try simp only [Heap.set_none', stH_none] at hpb); (with_reducible apply runO_go); simp only [go_sem, *])
    | ((with_reducible apply runO_store); (focus (simp only [go_sem]; rfl)); (focus (simp only [go_sem, *]; rfl)); (focus (simp only [go_sem, *]; rfl)); (focus (simp only [go_sem, *]; done)); (focus (simp only [go_sem, *]; done)); (focus (simp only [go_sem, *]; done)); (with_reducible apply runO_go); simp only [go_sem, *, Heap.set_set]))
      refine run_drop (H' := H) (by (repeat (first | assumption | exact Heap.sub_refl _ | refine Heap.sub_congr ?_ | refine Heap.sub_set ?_ (by assumption) | refine Heap.sub_set2 ?_ (by first | assumption | (simp only [*]; done) | (simp only [Heap.set_none', stH_none, ne_eq, *, not_false_eq_true, and_self]; done)))); done) ?_
      refine IHa.out (l.length - (k + 1)) _ _ (by omega) ⟨k + 1, by omega, rfl, HN.out, (by simp only [go_sem, *]), (by simp only [go_sem, *]), (by simp only [go_sem, *]), (by simp only [go_sem, *]), rfl⟩
    · have hp' : (40 : Int) < (o.pf.length : Int) := by omega
      have hn := all_notG (p := fun o : Cl1 => decide (o.pf.length ≤ 40)) hlt (by rw [ho]; simpa using hp)
      rw [hn]
      clear hn hp
      repeat' (first
    | (with_reducible apply run_seq)
    | (with_reducible apply run_block)
    | (with_reducible apply run_skip)
    | ((with_reducible apply run_go); simp only [go_sem, *])
    | ((with_reducible apply run_cond_t); (focus (simp only [go_sem, *]; done)))
    | ((with_reducible apply runO_alloc); (focus (simp only [go_sem, *]; rfl)); intro pb hpb; have hfb := Heap.ne_of_none hpb; (try simp only [Heap.set_none', stH_none] at hpb); (with_reducible apply runO_go); simp only [go_sem, *])
    | ((with_reducible apply runO_store); (focus (simp only [go_sem]; rfl)); (focus (simp only [go_sem, *]; rfl)); (focus (simp only [go_sem, *]; rfl)); (focus (simp only [go_sem, *]; done)); (focus (simp only [go_sem, *]; done)); (focus (simp only [go_sem, *]; done)); (with_reducible apply runO_go); simp only [go_sem, *, Heap.set_set])
    | ((with_reducible apply run_ret Try.func9 res9 (H' := H)); (focus (simp only [go_sem, *]; rfl)); (focus trivial); (focus (repeat (first | assumption | exact Heap.sub_refl _ | refine Heap.sub_congr ?_ | refine Heap.sub_set ?_ (by assumption) | refine Heap.sub_set2 ?_ (by first | assumption | (simp only [*]; done) | (simp only [Heap.set_none', stH_none, ne_eq, *, not_false_eq_true, and_self]; done)))))))
      exact ⟨rfl, rfl⟩
  · obtain rfl : k = l.length := by omega
    have hn := Ia0.out
    rw [List.take_length] at hn
    rw [hn]
    repeat' (first
    | (with_reducible apply run_seq)
    | (with_reducible apply run_exit rfl)
    | ((with_reducible apply run_go); simp only [go_sem, *])
    | ((with_reducible apply run_cond_f); (focus (simp only [go_sem, *]; done)))
    | ((with_reducible apply run_ret Try.func9 res9 (H' := H)); (focus (simp only [go_sem, *]; rfl)); (focus trivial); (focus (repeat (first | assumption | exact Heap.sub_refl _ | refine Heap.sub_congr ?_ | refine Heap.sub_set ?_ (by assumption) | refine Heap.sub_set2 ?_ (by first | assumption | (simp only [*]; done) | (simp only [Heap.set_none', stH_none, ne_eq, *, not_false_eq_true, and_self]; done)))))))
    refine ⟨vb ?_, rfl⟩
    simp
    omega

theorem nilMake_call (W : World) (H : Heap) (k : Ky) (s : BitVec 8) (o : Int) :
    CallA Try.prog W 13 [.v (.pointer none), dS k, .v (.int .u8 (s.toNat : Int)), .v (.int .i64 o)] H fun r H' => r = .v (.int .i64 8) ∧ H' = H := by
  refine call_in Try.func13 rfl Try.ntmps13 (by simp) ?_
  have c1 := fun H => nilAt_call W H k
  repeat' (first
    | (with_reducible apply run_seq)
    | (with_reducible apply run_block)
    | ((with_reducible apply run_go); simp only [go_sem, *])
    | ((with_reducible apply run_cond_t); (focus (simp only [go_sem, *]; done)))
    | ((with_reducible apply runO_callF known24); simp only [go_sem, *]; refine (c1 _).use ?_; (with_reducible apply runO_go); simp only [go_sem, *])
    | ((with_reducible apply run_ret Try.func13 res13 (H' := H)); (focus (simp only [go_sem, *]; rfl)); (focus trivial); (focus (repeat (first | assumption | exact Heap.sub_refl _ | refine Heap.sub_congr ?_ | refine Heap.sub_set ?_ (by assumption) | refine Heap.sub_set2 ?_ (by first | assumption | (simp only [*]; done) | (simp only [Heap.set_none', stH_none, ne_eq, *, not_false_eq_true, and_self]; done)))))))
  exact ⟨rfl, rfl⟩
theorem nilMark_call (W : World) (H : Heap) (k : Ky) (s : BitVec 8) :
    CallA Try.prog W 15 [.v (.pointer none), dS k, .v (.int .u8 (s.toNat : Int))] H fun r H' => r = .v (.int .i64 8) ∧ H' = H := by
  refine call_in Try.func15 rfl Try.ntmps15 (by simp) ?_
  have c1 := fun H => nilFind_call W H k
  repeat' (first
    | (with_reducible apply run_seq)
    | (with_reducible apply run_block)
    | ((with_reducible apply run_go); simp only [go_sem, *])
    | ((with_reducible apply run_cond_t); (focus (simp only [go_sem, *]; done)))
    | ((with_reducible apply runO_callF known39); simp only [go_sem, *]; refine (c1 _).use ?_; (with_reducible apply runO_go); simp only [go_sem, *])
    | ((with_reducible apply run_ret Try.func15 res15 (H' := H)); (focus (simp only [go_sem, *]; rfl)); (focus trivial); (focus (repeat (first | assumption | exact Heap.sub_refl _ | refine Heap.sub_congr ?_ | refine Heap.sub_set ?_ (by assumption) | refine Heap.sub_set2 ?_ (by first | assumption | (simp only [*]; done) | (simp only [Heap.set_none', stH_none, ne_eq, *, not_false_eq_true, and_self]; done)))))))
  exact ⟨rfl, rfl⟩
theorem nilClaim_call (W : World) (H : Heap) (k : Ky) (d : Int) :
    CallA Try.prog W 17 [.v (.pointer none), dS k, .v (.int .i64 d)] H fun r H' => r = .tup [.v (.int .i64 0), .v (.int .u8 0), .v (.int .i64 8)] ∧ H' = H := by
  refine call_in Try.func17 rfl Try.ntmps17 (by simp) ?_
  have c1 := fun H => nilFind_call W H k
  repeat' (first
    | (with_reducible apply run_seq)
    | (with_reducible apply run_block)
    | ((with_reducible apply run_go); simp only [go_sem, *])
    | ((with_reducible apply run_cond_t); (focus (simp only [go_sem, *]; done)))
    | ((with_reducible apply runO_callF known39); simp only [go_sem, *]; refine (c1 _).use ?_; (with_reducible apply runO_go); simp only [go_sem, *])
    | ((with_reducible apply run_ret Try.func17 res17 (H' := H)); (focus (simp only [go_sem, *]; rfl)); (focus trivial); (focus (repeat (first | assumption | exact Heap.sub_refl _ | refine Heap.sub_congr ?_ | refine Heap.sub_set ?_ (by assumption) | refine Heap.sub_set2 ?_ (by first | assumption | (simp only [*]; done) | (simp only [Heap.set_none', stH_none, ne_eq, *, not_false_eq_true, and_self]; done)))))))
  exact ⟨rfl, rfl⟩
theorem nilHand_call (W : World) (H : Heap) (k : Ky) (o : Int) :
    CallA Try.prog W 21 [.v (.pointer none), dS k, .v (.int .i64 o)] H fun r H' => r = .v (.int .i64 8) ∧ H' = H := by
  refine call_in Try.func21 rfl Try.ntmps21 (by simp) ?_
  have c1 := fun H => nilFind_call W H k
  repeat' (first
    | (with_reducible apply run_seq)
    | (with_reducible apply run_block)
    | ((with_reducible apply run_go); simp only [go_sem, *])
    | ((with_reducible apply run_cond_t); (focus (simp only [go_sem, *]; done)))
    | ((with_reducible apply runO_callF known39); simp only [go_sem, *]; refine (c1 _).use ?_; (with_reducible apply runO_go); simp only [go_sem, *])
    | ((with_reducible apply run_ret Try.func21 res21 (H' := H)); (focus (simp only [go_sem, *]; rfl)); (focus trivial); (focus (repeat (first | assumption | exact Heap.sub_refl _ | refine Heap.sub_congr ?_ | refine Heap.sub_set ?_ (by assumption) | refine Heap.sub_set2 ?_ (by first | assumption | (simp only [*]; done) | (simp only [Heap.set_none', stH_none, ne_eq, *, not_false_eq_true, and_self]; done)))))))
  exact ⟨rfl, rfl⟩
theorem nilLeft_call (W : World) (H : Heap) (k : Ky) :
    CallA Try.prog W 27 [.v (.pointer none), dS k] H fun r H' => r = .list [] ∧ H' = H := by
  refine call_in Try.func27 rfl Try.ntmps27 (by simp) ?_
  have c1 := fun H => nilFind_call W H k
  repeat' (first
    | (with_reducible apply run_seq)
    | ((with_reducible apply run_go); simp only [go_sem, *])
    | ((with_reducible apply run_cond_t); (focus (simp only [go_sem, *]; done)))
    | ((with_reducible apply runO_callF known39); simp only [go_sem, *]; refine (c1 _).use ?_; (with_reducible apply runO_go); simp only [go_sem, *])
    | ((with_reducible apply run_ret Try.func27 res27 (H' := H)); (focus (simp only [go_sem, *]; rfl)); (focus trivial); (focus (repeat (first | assumption | exact Heap.sub_refl _ | refine Heap.sub_congr ?_ | refine Heap.sub_set ?_ (by assumption) | refine Heap.sub_set2 ?_ (by first | assumption | (simp only [*]; done) | (simp only [Heap.set_none', stH_none, ne_eq, *, not_false_eq_true, and_self]; done)))))))
  exact ⟨rfl, rfl⟩
theorem nilOwner_call (W : World) (H : Heap) (k : Ky) :
    CallA Try.prog W 26 [.v (.pointer none), dS k] H fun r H' => r = .v (.int .i64 (-1)) ∧ H' = H := by
  refine call_in Try.func26 rfl Try.ntmps26 (by simp) ?_
  have c1 := fun H => nilFind_call W H k
  repeat' (first
    | (with_reducible apply run_seq)
    | ((with_reducible apply run_go); simp only [go_sem, *])
    | ((with_reducible apply run_cond_t); (focus (simp only [go_sem, *]; done)))
    | ((with_reducible apply runO_callF known39); simp only [go_sem, *]; refine (c1 _).use ?_; (with_reducible apply runO_go); simp only [go_sem, *])
    | ((with_reducible apply run_ret Try.func26 res26 (H' := H)); (focus (simp only [go_sem, *]; rfl)); (focus trivial); (focus (repeat (first | assumption | exact Heap.sub_refl _ | refine Heap.sub_congr ?_ | refine Heap.sub_set ?_ (by assumption) | refine Heap.sub_set2 ?_ (by first | assumption | (simp only [*]; done) | (simp only [Heap.set_none', stH_none, ne_eq, *, not_false_eq_true, and_self]; done)))))))
  exact ⟨rfl, rfl⟩
theorem nilAsleep_call (W : World) (H : Heap) (k : Ky) :
    CallA Try.prog W 28 [.v (.pointer none), dS k] H fun r H' => r = .v (.int .u8 0) ∧ H' = H := by
  refine call_in Try.func28 rfl Try.ntmps28 (by simp) ?_
  have c1 := fun H => nilFind_call W H k
  repeat' (first
    | (with_reducible apply run_seq)
    | ((with_reducible apply run_go); simp only [go_sem, *])
    | ((with_reducible apply run_cond_t); (focus (simp only [go_sem, *]; done)))
    | ((with_reducible apply runO_callF known39); simp only [go_sem, *]; refine (c1 _).use ?_; (with_reducible apply runO_go); simp only [go_sem, *])
    | ((with_reducible apply run_ret Try.func28 res28 (H' := H)); (focus (simp only [go_sem, *]; rfl)); (focus trivial); (focus (repeat (first | assumption | exact Heap.sub_refl _ | refine Heap.sub_congr ?_ | refine Heap.sub_set ?_ (by assumption) | refine Heap.sub_set2 ?_ (by first | assumption | (simp only [*]; done) | (simp only [Heap.set_none', stH_none, ne_eq, *, not_false_eq_true, and_self]; done)))))))
  exact ⟨rfl, rfl⟩
theorem nilLen_call (W : World) (H : Heap) : CallA Try.prog W 29 [.v (.pointer none)] H fun r H' => r = .v (.int .i64 0) ∧ H' = H := by
  refine call_in Try.func29 rfl Try.ntmps29 (by simp) ?_
  repeat' (first
    | (with_reducible apply run_seq)
    | ((with_reducible apply run_go); simp only [go_sem, *])
    | ((with_reducible apply run_cond_t); (focus (simp only [go_sem, *]; done)))
    | ((with_reducible apply run_ret Try.func29 res29 (H' := H)); (focus (simp only [go_sem, *]; rfl)); (focus trivial); (focus (repeat (first | assumption | exact Heap.sub_refl _ | refine Heap.sub_congr ?_ | refine Heap.sub_set ?_ (by assumption) | refine Heap.sub_set2 ?_ (by first | assumption | (simp only [*]; done) | (simp only [Heap.set_none', stH_none, ne_eq, *, not_false_eq_true, and_self]; done)))))))
  exact ⟨rfl, rfl⟩
theorem nilClaims_call (W : World) (H : Heap) : CallA Try.prog W 30 [.v (.pointer none)] H fun r H' => r = .v (.int .i64 0) ∧ H' = H := by
  refine call_in Try.func30 rfl Try.ntmps30 (by simp) ?_
  repeat' (first
    | (with_reducible apply run_seq)
    | ((with_reducible apply run_go); simp only [go_sem, *])
    | ((with_reducible apply run_cond_t); (focus (simp only [go_sem, *]; done)))
    | ((with_reducible apply run_ret Try.func30 res30 (H' := H)); (focus (simp only [go_sem, *]; rfl)); (focus trivial); (focus (repeat (first | assumption | exact Heap.sub_refl _ | refine Heap.sub_congr ?_ | refine Heap.sub_set ?_ (by assumption) | refine Heap.sub_set2 ?_ (by first | assumption | (simp only [*]; done) | (simp only [Heap.set_none', stH_none, ne_eq, *, not_false_eq_true, and_self]; done)))))))
  exact ⟨rfl, rfl⟩
end Go.Proofs.Ytcfeklnmampndaa
