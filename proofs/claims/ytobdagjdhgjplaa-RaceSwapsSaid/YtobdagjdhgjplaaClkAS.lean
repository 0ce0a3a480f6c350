/-
  Several texts in one: ClockA, ClockB, ClockC, ClockD, ClockE, ClockF, ClockG, ClockP, ClockQ, ClockR, ClockS.
-/
import Derived.Test.YtobdagjdhgjplaaEvR
set_option linter.unusedSimpArgs false
set_option linter.unusedVariables false
namespace Go.Proofs.Ytobdagjdhgjplaa
open Go Go.Sn Go.RowKit

theorem rightC_call (W : World) (H : Heap) (e : Ev) :
    CallA Try.prog W 82 [.agg (evC e)] H fun r H' => r = .v (.bool (!rightR e)) ∧ H' = H := by
  refine call_in Try.func82 rfl Try.ntmps82 (by simp) ?_
  have cr := right_call W
  simp only [right_eq] at cr
  repeat' (first
    | (with_reducible apply run_seq)
    | ((with_reducible apply run_go); simp only [go_sem, *])
    | ((with_reducible apply runO_box); (focus (simp only [go_sem, *]; done)); intro pb hpb; have hfb := Heap.ne_of_none hpb; (try simp only [Heap.set_none'] at hpb); (with_reducible apply runO_go); simp only [go_sem, *])
    | ((with_reducible apply runO_callF known79); simp only [go_sem, *]; refine (cr _ e).use ?_; (with_reducible apply runO_go); simp only [go_sem, *])
    | ((with_reducible apply run_ret Try.func82 res82 (H' := H)); (focus (simp only [go_sem, *]; rfl)); (focus trivial); (focus (repeat (first | assumption | exact Heap.sub_refl _ | refine Heap.sub_congr ?_ | refine Heap.sub_set ?_ (by assumption) | refine Heap.sub_set2 ?_ (by first | assumption | (simp only [*]; done) | (simp only [Heap.set_none', ne_eq, *, not_false_eq_true, and_self]; done)))))))
  exact ⟨rfl, rfl⟩

/-- The place of the first that may not be. -/
def badAt (l : List Ev) : Int := if l.all rightR then -1 else ((l.findIdx fun e => !rightR e : Nat) : Int)

theorem badAt_of {l : List Ev} {k : Nat} (h : k < l.length) (ha : (l.take k).all rightR = true) (hk : rightR (l.getD k default) = false) : badAt l = (k : Int) := by
  rw [badAt, if_neg (by rw [all_not h hk]; simp)]
  congr 1
  rw [List.findIdx_eq h]
  refine ⟨by simpa [List.getD, h] using hk, fun j hj => ?_⟩
  have := List.all_eq_true.1 ha (l[j]'(by omega)) (List.mem_take_iff_getElem.2 ⟨j, by omega, rfl⟩)
  simp [this]

theorem indexF_call (W : World) (H : Heap) (l : List Ev) (hl : l.length ≤ 1000000) :
    CallA Try.prog W 92 [.list (evsC l), .v (.func (.func 82) #[] #[])] H fun r H' => r = .v (.int .i64 (badAt l)) ∧ H' = H := by
  refine call_in Try.func92 rfl Try.ntmps92 (by simp) ?_
  repeat' (first
    | (with_reducible apply run_seq)
    | (with_reducible apply run_block)
    | ((with_reducible apply run_go); simp only [go_sem, *]))
  refine run_loop (fun n e H' => ∃ k : Nat, k ≤ l.length ∧ n = l.length - k ∧ (l.take k).all rightR = true ∧ e 0 = .list (evsC l) ∧ e 1 = .v (.func (.func 82) #[] #[]) ∧ e 7 = .v (.int .i64 (l.length : Int)) ∧ e 8 = .v (.int .i64 (k : Int)) ∧ H = H') l.length
      ⟨0, Nat.zero_le _, rfl, rfl, (by simp only [go_sem, *]), (by simp only [go_sem, *]), (by simp only [go_sem, *]), by simp only [go_sem] <;> rfl, rfl⟩ ?_
  rintro n e H' ih ⟨k, hk, rfl, hall, h0, h1, h7, h8, rfl⟩
  have IH : Hid _ := ih
  clear ih
  have HA : Hid _ := hall
  clear hall
  by_cases hlt : k < l.length
  · have hw : IntKind.i64.wrap ((k : Int) + 1) = ((k + 1 : Nat) : Int) := by rw [wrap_nat (by omega) (by omega)]; rfl
    by_cases hr : rightR (l.getD k default) = true
    · repeat' (first
    | (with_reducible apply run_seq)
    | (with_reducible apply run_block)
    | (with_reducible apply run_inBlock)
    | (with_reducible apply run_skip)
    | ((with_reducible apply run_go); simp only [go_sem, *])
    | ((with_reducible apply run_cond_t); (focus (simp only [go_sem, *]; done)))
    | ((with_reducible apply run_cond_f); (focus (simp only [go_sem, *]; done)))
    | ((with_reducible apply runO_callV); (focus (simp only [go_sem, *]; rfl)); (focus (exact known82)); simp only [go_sem, *]; refine (rightC_call W _ _).use ?_; (with_reducible apply runO_go); simp only [go_sem, *]))
      refine IH.out (l.length - (k + 1)) _ _ (by omega) ⟨k + 1, by omega, rfl, all_take_succ hlt HA.out hr, (by simp only [go_sem, *]), (by simp only [go_sem, *]), (by simp only [go_sem, *]), (by simp only [go_sem, *]), rfl⟩
    · have hr' : rightR (l.getD k default) = false := by simpa using hr
      repeat' (first
    | (with_reducible apply run_seq)
    | (with_reducible apply run_block)
    | (with_reducible apply run_skip)
    | ((with_reducible apply run_go); simp only [go_sem, *])
    | ((with_reducible apply run_cond_t); (focus (simp only [go_sem, *]; done)))
    | ((with_reducible apply runO_callV); (focus (simp only [go_sem, *]; rfl)); (focus (exact known82)); simp only [go_sem, *]; refine (rightC_call W _ _).use ?_; (with_reducible apply runO_go); simp only [go_sem, *])
    | ((with_reducible apply run_ret Try.func92 res92 (H' := H)); (focus (simp only [go_sem, *]; rfl)); (focus trivial); (focus (repeat (first | assumption | exact Heap.sub_refl _ | refine Heap.sub_congr ?_ | refine Heap.sub_set ?_ (by assumption) | refine Heap.sub_set2 ?_ (by first | assumption | (simp only [*]; done) | (simp only [Heap.set_none', ne_eq, *, not_false_eq_true, and_self]; done)))))))
      exact ⟨by rw [badAt_of hlt HA.out hr']; rfl, rfl⟩
  · repeat' (first
    | (with_reducible apply run_seq)
    | (with_reducible apply run_exit rfl)
    | ((with_reducible apply run_go); simp only [go_sem, *])
    | ((with_reducible apply run_cond_f); (focus (simp only [go_sem, *]; done)))
    | ((with_reducible apply run_ret Try.func92 res92 (H' := H)); (focus (simp only [go_sem, *]; rfl)); (focus trivial); (focus (repeat (first | assumption | exact Heap.sub_refl _ | refine Heap.sub_congr ?_ | refine Heap.sub_set ?_ (by assumption) | refine Heap.sub_set2 ?_ (by first | assumption | (simp only [*]; done) | (simp only [Heap.set_none', ne_eq, *, not_false_eq_true, and_self]; done)))))))
    have ha := HA.out
    rw [List.take_of_length_le (Nat.not_lt.1 hlt)] at ha
    exact ⟨by rw [badAt, if_pos ha]; rfl, rfl⟩

theorem containsF_call (W : World) (H : Heap) (l : List Ev) (hl : l.length ≤ 1000000) :
    CallA Try.prog W 77 [.list (evsC l), .v (.func (.func 82) #[] #[])] H fun r H' => r = .v (.bool (!l.all rightR)) ∧ H' = H := by
  refine call_in Try.func77 rfl Try.ntmps77 (by simp) ?_
  have ci := fun H => indexF_call W H l hl
  repeat' (first
    | (with_reducible apply run_seq)
    | ((with_reducible apply run_go); simp only [go_sem, *])
    | ((with_reducible apply runO_callF known92); simp only [go_sem, *]; refine (ci _).use ?_; (with_reducible apply runO_go); simp only [go_sem, *])
    | ((with_reducible apply run_ret Try.func77 res77 (H' := H)); (focus (simp only [go_sem, *]; rfl)); (focus trivial); (focus (repeat (first | assumption | exact Heap.sub_refl _ | refine Heap.sub_congr ?_ | refine Heap.sub_set ?_ (by assumption) | refine Heap.sub_set2 ?_ (by first | assumption | (simp only [*]; done) | (simp only [Heap.set_none', ne_eq, *, not_false_eq_true, and_self]; done)))))))
  refine ⟨?_, rfl⟩
  have : decide (0 ≤ badAt l) = !l.all rightR := by
    unfold badAt
    split
    · rename_i h; simp [h]
    · rename_i h; simp [h]
  rw [this]; rfl

theorem rightsC_call (W : World) (H : Heap) (l : List Ev) (hl : l.length ≤ 1000000) :
    CallA Try.prog W 63 [.list (evsC l)] H fun r H' => r = .v (.bool (l.all rightR)) ∧ H' = H := by
  refine call_in Try.func63 rfl Try.ntmps63 (by simp) ?_
  have ci := fun H => containsF_call W H l hl
  repeat' (first
    | (with_reducible apply run_seq)
    | ((with_reducible apply run_go); simp only [go_sem, *])
    | ((with_reducible apply runO_callF known77); simp only [go_sem, *]; refine (ci _).use ?_; (with_reducible apply runO_go); simp only [go_sem, *])
    | ((with_reducible apply run_ret Try.func63 res63 (H' := H)); (focus (simp only [go_sem, *]; rfl)); (focus trivial); (focus (repeat (first | assumption | exact Heap.sub_refl _ | refine Heap.sub_congr ?_ | refine Heap.sub_set ?_ (by assumption) | refine Heap.sub_set2 ?_ (by first | assumption | (simp only [*]; done) | (simp only [Heap.set_none', ne_eq, *, not_false_eq_true, and_self]; done)))))))
  exact ⟨by rw [Bool.not_not]; rfl, rfl⟩

theorem rows_call (W : World) (H : Heap) (l : List Ev) (hl : l.length ≤ 1000000) :
    CallA Try.prog W 43 [.list (evsC l)] H fun r H' => r = .v (.bool (l.all rightR)) ∧ H' = H := by
  refine call_in Try.func43 rfl Try.ntmps43 (by simp) ?_
  repeat' (first
    | (with_reducible apply run_seq)
    | (with_reducible apply run_block)
    | ((with_reducible apply run_go); simp only [go_sem, *]))
  refine run_loop (fun n e H' => ∃ k : Nat, k ≤ l.length ∧ n = l.length - k ∧ (l.take k).all rightR = true ∧ e 0 = .list (evsC l) ∧ e 3 = .v (.int .i64 (k : Int)) ∧ H = H') l.length
      ⟨0, Nat.zero_le _, rfl, rfl, (by simp only [go_sem, *]), by simp only [go_sem] <;> rfl, rfl⟩ ?_
  rintro n e H' ih ⟨k, hk, rfl, hall, h0, h3, rfl⟩
  have IH : Hid _ := ih
  clear ih
  have HA : Hid _ := hall
  clear hall
  by_cases hlt : k < l.length
  · have hw : IntKind.i64.wrap ((k : Int) + 1) = ((k + 1 : Nat) : Int) := by rw [wrap_nat (by omega) (by omega)]; rfl
    by_cases hr : rightR (l.getD k default) = true
    · repeat' (first
    | (with_reducible apply run_seq)
    | (with_reducible apply run_block)
    | (with_reducible apply run_inBlock)
    | (with_reducible apply run_skip)
    | ((with_reducible apply run_go); simp only [go_sem, *])
    | ((with_reducible apply run_cond_t); (focus (simp only [go_sem, *]; done)))
    | ((with_reducible apply run_cond_f); (focus (simp only [go_sem, *]; done)))
    | ((with_reducible apply runO_callF known62); simp only [go_sem, *]; refine (rightR_call W _ _).use ?_; (with_reducible apply runO_go); simp only [go_sem, *]))
      refine IH.out (l.length - (k + 1)) _ _ (by omega) ⟨k + 1, by omega, rfl, all_take_succ hlt HA.out hr, (by simp only [go_sem, *]), (by simp only [go_sem, *]), rfl⟩
    · have hr' : rightR (l.getD k default) = false := by simpa using hr
      repeat' (first
    | (with_reducible apply run_seq)
    | (with_reducible apply run_block)
    | (with_reducible apply run_skip)
    | ((with_reducible apply run_go); simp only [go_sem, *])
    | ((with_reducible apply run_cond_t); (focus (simp only [go_sem, *]; done)))
    | ((with_reducible apply runO_callF known62); simp only [go_sem, *]; refine (rightR_call W _ _).use ?_; (with_reducible apply runO_go); simp only [go_sem, *])
    | ((with_reducible apply run_ret Try.func43 res43 (H' := H)); (focus (simp only [go_sem, *]; rfl)); (focus trivial); (focus (repeat (first | assumption | exact Heap.sub_refl _ | refine Heap.sub_congr ?_ | refine Heap.sub_set ?_ (by assumption) | refine Heap.sub_set2 ?_ (by first | assumption | (simp only [*]; done) | (simp only [Heap.set_none', ne_eq, *, not_false_eq_true, and_self]; done)))))))
      exact ⟨by rw [all_not hlt hr']; rfl, rfl⟩
  · repeat' (first
    | (with_reducible apply run_seq)
    | (with_reducible apply run_exit rfl)
    | ((with_reducible apply run_go); simp only [go_sem, *])
    | ((with_reducible apply run_cond_f); (focus (simp only [go_sem, *]; done)))
    | ((with_reducible apply run_ret Try.func43 res43 (H' := H)); (focus (simp only [go_sem, *]; rfl)); (focus trivial); (focus (repeat (first | assumption | exact Heap.sub_refl _ | refine Heap.sub_congr ?_ | refine Heap.sub_set ?_ (by assumption) | refine Heap.sub_set2 ?_ (by first | assumption | (simp only [*]; done) | (simp only [Heap.set_none', ne_eq, *, not_false_eq_true, and_self]; done)))))))
    have ha := HA.out
    rw [List.take_of_length_le (Nat.not_lt.1 hlt)] at ha
    exact ⟨by rw [ha]; rfl, rfl⟩
end Go.Proofs.Ytobdagjdhgjplaa
set_option linter.unusedSimpArgs false
set_option linter.unusedVariables false
namespace Go.Proofs.Ytobdagjdhgjplaa
open Go Go.Sn Go.RowKit

@[go_sem] theorem evsC_take (l : List Ev) (n : Nat) : (evsC l).take n = evsC (l.take n) := by simp [evsC]
/-- How many of a list are of a thread. -/
def cntT (t : Int) (l : List Ev) : Nat := l.countP fun e => decide (e.th = t)
theorem cntT_le (t : Int) (l : List Ev) : cntT t l ≤ l.length := List.countP_le_length
theorem cntT_succ (t : Int) {l : List Ev} {k : Nat} (h : k < l.length) : cntT t (l.take (k + 1)) = cntT t (l.take k) + if (l.getD k default).th = t then 1 else 0 := by
  rw [take_succ_getD l k h, cntT, cntT, List.countP_append, List.countP_cons, List.countP_nil]
  simp
/-- The number of an event in its thread. -/
def numN (l : List Ev) (i : Int) : Int := if decide (i < 0) || decide ((l.length : Int) ≤ i) || !l.all rightR then 0 else (cntT (l.getD i.toNat default).th (l.take (i.toNat + 1)) : Int)
end Go.Proofs.Ytobdagjdhgjplaa
set_option linter.unusedSimpArgs false
set_option linter.unusedVariables false
namespace Go.Proofs.Ytobdagjdhgjplaa
open Go Go.Sn Go.RowKit

/-- Whole numbers, as cells. -/
def iC (c : List Int) : List D := c.map fun n => .v (.int .i64 n)

@[go_sem] theorem iC_flat0 (c : List Int) : (iC c).map D.flat0 = iC c := by simp [iC, D.flat0_v, Function.comp_def]
def joinK (k : Nat) (c d : List Int) : List Int := List.zipWith max (c.take k) (d.take k) ++ c.drop k
def joinI (c d : List Int) : List Int := List.zipWith max c d

theorem join_call (W : World) (H : Heap) (b : Nat) (e : Nat) (c d : List Int) (hc : c.length = 4) (hd : d.length = 4) (hb : H b = some (.cells (iC c) e)) :
    CallA Try.prog W 83 [.v (.pointer (some ⟨b, 0, none⟩)), .agg (iC d)] H fun r H' => H' = H.set b (.cells (iC (joinI c d)) e) := by
  match c, d, hc, hd with
  | [c0, c1, c2, c3], [d0, d1, d2, d3], _, _ =>
  refine call_in Try.func83 rfl Try.ntmps83 (by simp) ?_
  simp only [iC, List.map_cons, List.map_nil] at hb
  simp only [iC, List.map_cons, List.map_nil]
  repeat' (first
    | (with_reducible apply run_seq)
    | (with_reducible apply run_block)
    | ((with_reducible apply run_go); simp only [go_sem, *])
    | ((with_reducible apply runO_box); (focus (simp only [go_sem, *]; done)); intro pb hpb; have hfb := Heap.ne_of_none hpb; (try simp only [Heap.set_none'] at hpb); (with_reducible apply runO_go); simp only [go_sem, *]))
  have hbp : b ≠ pb := fun e => by rw [e, hpb] at hb; cases hb
  have hbp' : pb ≠ b := fun e => hbp e.symm
  refine run_loop (fun m e' H' => ∃ k : Nat, k ≤ 4 ∧ m = 4 - k ∧ e' 0 = .v (.pointer (some ⟨b, 0, none⟩)) ∧ e' 3 = .v (.pointer (some ⟨pb, 0, none⟩)) ∧ e' 5 = .v (.int .i64 (k : Int)) ∧
      H' = (H.set pb (.cells (iC [d0, d1, d2, d3]) 111)).set b (.cells (iC (joinK k [c0, c1, c2, c3] [d0, d1, d2, d3])) e)) 4
      ⟨0, Nat.zero_le _, rfl, (by simp only [go_sem, *]), (by simp only [go_sem, *]), by simp only [go_sem] <;> rfl, (Heap.set_self (by rw [Heap.set_other (h := hbp), hb]; rfl)).symm⟩ ?_
  rintro m e' H' ih ⟨k, hk, rfl, h0, h3, h5, rfl⟩
  have IH : Hid _ := ih
  clear ih
  have hk4 : k = 0 ∨ k = 1 ∨ k = 2 ∨ k = 3 ∨ k = 4 := by omega
  clear hk
  rcases hk4 with rfl | rfl | rfl | rfl | rfl
  · replace h5 : e' 5 = .v (.int .i64 0) := h5
    simp only [iC, joinK, List.zipWith_cons_cons, List.zipWith_nil_left, go_sem]
    repeat' (first
    | (with_reducible apply run_seq)
    | (with_reducible apply run_block)
    | (with_reducible apply run_inBlock)
    | (with_reducible apply run_skip)
    | ((with_reducible apply run_go); simp only [go_sem, *])
    | ((with_reducible apply run_drawGo Cl.zero Cl.zero_plain mixed); (focus kernel_rfl); simp only [go_sem, *])
    | ((with_reducible apply run_cond_t); (focus (simp only [go_sem, *]; done)))
    | ((with_reducible apply runD_store); (focus (simp only [go_sem]; rfl)); (focus (simp only [go_sem, *]; rfl)); (focus (simp only [go_sem, *]; rfl)); (focus (simp only [go_sem, *]; done)); (focus (simp only [go_sem, *]; done)); (focus (simp only [go_sem, *]; done)); (focus (first | rfl | (simp only [go_sem, *]; done))); (with_reducible first | apply runD_go Cl.zero_plain | apply runD_goC); simp only [go_sem, *, Heap.set_set]))
    refine IH.out (4 - 1) _ _ (by omega) ⟨1, by omega, rfl, (by simp only [go_sem, *]), (by simp only [go_sem, *]), by simp only [go_sem] <;> rfl, by simp only [iC, joinK, List.zipWith_cons_cons, List.zipWith_nil_left, imax_eq, go_sem]⟩
  · replace h5 : e' 5 = .v (.int .i64 1) := h5
    simp only [iC, joinK, List.zipWith_cons_cons, List.zipWith_nil_left, go_sem]
    repeat' (first
    | (with_reducible apply run_seq)
    | (with_reducible apply run_block)
    | (with_reducible apply run_inBlock)
    | (with_reducible apply run_skip)
    | ((with_reducible apply run_go); simp only [go_sem, *])
    | ((with_reducible apply run_drawGo Cl.zero Cl.zero_plain mixed); (focus kernel_rfl); simp only [go_sem, *])
    | ((with_reducible apply run_cond_t); (focus (simp only [go_sem, *]; done)))
    | ((with_reducible apply runD_store); (focus (simp only [go_sem]; rfl)); (focus (simp only [go_sem, *]; rfl)); (focus (simp only [go_sem, *]; rfl)); (focus (simp only [go_sem, *]; done)); (focus (simp only [go_sem, *]; done)); (focus (simp only [go_sem, *]; done)); (focus (first | rfl | (simp only [go_sem, *]; done))); (with_reducible first | apply runD_go Cl.zero_plain | apply runD_goC); simp only [go_sem, *, Heap.set_set]))
    refine IH.out (4 - 2) _ _ (by omega) ⟨2, by omega, rfl, (by simp only [go_sem, *]), (by simp only [go_sem, *]), by simp only [go_sem] <;> rfl, by simp only [iC, joinK, List.zipWith_cons_cons, List.zipWith_nil_left, imax_eq, go_sem]⟩
  · replace h5 : e' 5 = .v (.int .i64 2) := h5
    simp only [iC, joinK, List.zipWith_cons_cons, List.zipWith_nil_left, go_sem]
    repeat' (first
    | (with_reducible apply run_seq)
    | (with_reducible apply run_block)
    | (with_reducible apply run_inBlock)
    | (with_reducible apply run_skip)
    | ((with_reducible apply run_go); simp only [go_sem, *])
    | ((with_reducible apply run_drawGo Cl.zero Cl.zero_plain mixed); (focus kernel_rfl); simp only [go_sem, *])
    | ((with_reducible apply run_cond_t); (focus (simp only [go_sem, *]; done)))
    | ((with_reducible apply runD_store); (focus (simp only [go_sem]; rfl)); (focus (simp only [go_sem, *]; rfl)); (focus (simp only [go_sem, *]; rfl)); (focus (simp only [go_sem, *]; done)); (focus (simp only [go_sem, *]; done)); (focus (simp only [go_sem, *]; done)); (focus (first | rfl | (simp only [go_sem, *]; done))); (with_reducible first | apply runD_go Cl.zero_plain | apply runD_goC); simp only [go_sem, *, Heap.set_set]))
    refine IH.out (4 - 3) _ _ (by omega) ⟨3, by omega, rfl, (by simp only [go_sem, *]), (by simp only [go_sem, *]), by simp only [go_sem] <;> rfl, by simp only [iC, joinK, List.zipWith_cons_cons, List.zipWith_nil_left, imax_eq, go_sem]⟩
  · replace h5 : e' 5 = .v (.int .i64 3) := h5
    simp only [iC, joinK, List.zipWith_cons_cons, List.zipWith_nil_left, go_sem]
    repeat' (first
    | (with_reducible apply run_seq)
    | (with_reducible apply run_block)
    | (with_reducible apply run_inBlock)
    | (with_reducible apply run_skip)
    | ((with_reducible apply run_go); simp only [go_sem, *])
    | ((with_reducible apply run_drawGo Cl.zero Cl.zero_plain mixed); (focus kernel_rfl); simp only [go_sem, *])
    | ((with_reducible apply run_cond_t); (focus (simp only [go_sem, *]; done)))
    | ((with_reducible apply runD_store); (focus (simp only [go_sem]; rfl)); (focus (simp only [go_sem, *]; rfl)); (focus (simp only [go_sem, *]; rfl)); (focus (simp only [go_sem, *]; done)); (focus (simp only [go_sem, *]; done)); (focus (simp only [go_sem, *]; done)); (focus (first | rfl | (simp only [go_sem, *]; done))); (with_reducible first | apply runD_go Cl.zero_plain | apply runD_goC); simp only [go_sem, *, Heap.set_set]))
    refine IH.out (4 - 4) _ _ (by omega) ⟨4, by omega, rfl, (by simp only [go_sem, *]), (by simp only [go_sem, *]), by simp only [go_sem] <;> rfl, by simp only [iC, joinK, List.zipWith_cons_cons, List.zipWith_nil_left, imax_eq, go_sem]⟩
  · replace h5 : e' 5 = .v (.int .i64 4) := h5
    simp only [iC, joinI, joinK, List.zipWith_cons_cons, List.zipWith_nil_left, go_sem]
    repeat' (first
    | (with_reducible apply run_seq)
    | (with_reducible apply run_exit rfl)
    | ((with_reducible apply run_go); simp only [go_sem, *])
    | ((with_reducible apply run_cond_f); (focus (simp only [go_sem, *]; done)))
    | ((with_reducible apply run_end Try.func83 res83 (H' := H.set b (.cells [.v (.int .i64 (max c0 d0)), .v (.int .i64 (max c1 d1)), .v (.int .i64 (max c2 d2)), .v (.int .i64 (max c3 d3))] e))); (focus (simp only [go_sem, *]; rfl)); (focus trivial); (focus (repeat (first | assumption | exact Heap.sub_refl _ | refine Heap.sub_congr ?_ | refine Heap.sub_set ?_ (by assumption) | refine Heap.sub_set2 ?_ (by first | assumption | (simp only [*]; done) | (simp only [Heap.set_none', ne_eq, *, not_false_eq_true, and_self]; done)))))))
    rfl
end Go.Proofs.Ytobdagjdhgjplaa
set_option linter.unusedSimpArgs false
set_option linter.unusedVariables false
namespace Go.Proofs.Ytobdagjdhgjplaa
open Go Go.Sn Go.RowKit

def clksC (cs : List (List Int)) : List (List D) := cs.map iC
@[go_sem] theorem iC_length (c : List Int) : (iC c).length = c.length := by simp [iC]
@[go_sem] theorem clksC_length (cs : List (List Int)) : (clksC cs).length = cs.length := by simp [clksC]
@[go_sem] theorem clksC_get (cs : List (List Int)) (n : Nat) (h : n < cs.length) : (clksC cs).getD n [] = iC (cs.getD n []) := by simp [clksC, List.getD, h]

/-- One's own number, one more. -/
def bump (t : Int) (c : List Int) : List Int := c.set t.toNat (c.getD t.toNat 0 + 1)
/-- The clocks of what an event depends on, joined. -/
def jf (cs : List (List Int)) (l : List Ev) (e : Ev) : Nat → List Int
  | 0 => [0, 0, 0, 0]
  | i + 1 => if depE (l.getD i default) e then joinI (jf cs l e i) (cs.getD i []) else jf cs l e i
/-- The first `k` clocks. -/
def clkU (l : List Ev) : Nat → List (List Int)
  | 0 => []
  | k + 1 => clkU l k ++ [bump (l.getD k default).th (jf (clkU l k) l (l.getD k default) k)]
def clksE (l : List Ev) : List (List Int) := if l.all rightR then clkU l l.length else []

theorem clkU_length (l : List Ev) : ∀ k, (clkU l k).length = k
  | 0 => rfl
  | k + 1 => by simp [clkU, clkU_length l k]

/-- A clock: four numbers, none above `m`. -/
def OkC (m : Nat) (c : List Int) : Prop := c.length = 4 ∧ ∀ x ∈ c, 0 ≤ x ∧ x ≤ (m : Int)
theorem OkC.mono {m n : Nat} {c : List Int} (h : OkC m c) (hm : m ≤ n) : OkC n c := ⟨h.1, fun x hx => by have := h.2 x hx; omega⟩
theorem OkC.join {m : Nat} {c d : List Int} (h : OkC m c) (k : OkC m d) : OkC m (joinI c d) := by
  obtain ⟨hc, hc'⟩ := h
  obtain ⟨hd, hd'⟩ := k
  match c, d, hc, hd with
  | [c0, c1, c2, c3], [d0, d1, d2, d3], _, _ =>
    simp only [List.mem_cons, List.not_mem_nil, or_false, forall_eq_or_imp, forall_eq] at hc' hd'
    refine ⟨rfl, ?_⟩
    simp only [joinI, List.zipWith_cons_cons, List.zipWith_nil_left, List.mem_cons, List.not_mem_nil, or_false, forall_eq_or_imp, forall_eq]
    omega
theorem OkC.zero (m : Nat) : OkC m [0, 0, 0, 0] := ⟨rfl, by simp⟩
theorem OkC.bump {m : Nat} {t : Int} {c : List Int} (h : OkC m c) : OkC (m + 1) (bump t c) := by
  refine ⟨by simp [Proofs.Ytobdagjdhgjplaa.bump, h.1], fun x hx => ?_⟩
  unfold Proofs.Ytobdagjdhgjplaa.bump at hx
  rcases List.mem_or_eq_of_mem_set hx with hx | rfl
  · have := h.2 x hx; omega
  · by_cases ht : t.toNat < c.length
    · have := h.2 (c.getD t.toNat 0) (by simp [List.getD, List.getElem?_eq_getElem ht])
      omega
    · have : c.getD t.toNat 0 = 0 := by simp [List.getD, List.getElem?_eq_none (Nat.le_of_not_lt ht)]
      rw [this]; omega
theorem OkC.jf {m : Nat} {cs : List (List Int)} {l : List Ev} {e : Ev} (h : ∀ c ∈ cs, OkC m c) : ∀ i, i ≤ cs.length → OkC m (jf cs l e i)
  | 0, _ => OkC.zero m
  | i + 1, hi => by
    unfold Proofs.Ytobdagjdhgjplaa.jf
    split
    · refine (OkC.jf h i (by omega)).join (h _ ?_)
      simp [List.getD, List.getElem?_eq_getElem (show i < cs.length by omega)]
    · exact OkC.jf h i (by omega)
theorem okC_clkU (l : List Ev) : ∀ k, ∀ c ∈ clkU l k, OkC k c
  | 0, c, h => by simp [clkU] at h
  | k + 1, c, h => by
    rcases List.mem_append.1 h with h | h
    · exact (okC_clkU l k c h).mono (by omega)
    · rw [List.mem_singleton.1 h]
      exact (OkC.jf (okC_clkU l k) k (by rw [clkU_length]; exact Nat.le_refl _)).bump

theorem clksC_all {l : List Ev} (k : Nat) : ∀ ds ∈ clksC (clkU l k), ds.length = 4 := by
  intro ds h
  simp only [clksC, List.mem_map] at h
  obtain ⟨c, hc, rfl⟩ := h
  rw [iC_length]
  exact (okC_clkU l k c hc).1

theorem clocks_call (W : World) (H : Heap) (l : List Ev) (hl : l.length ≤ 100000) :
    CallA Try.prog W 64 [.list (evsC l)] H fun r H' => r = .list (clksC (clksE l)) ∧ H' = H := by
  refine call_in Try.func64 rfl Try.ntmps64 (by simp) ?_
  have ci := fun H => rightsC_call W H l (by omega)
  by_cases hall : l.all rightR = true
  · simp only [hall] at ci
    repeat' (first
    | (with_reducible apply run_seq)
    | (with_reducible apply run_block)
    | (with_reducible apply run_skip)
    | ((with_reducible apply run_go); simp only [go_sem, *])
    | ((with_reducible apply run_cond_f); (focus (simp only [go_sem, *]; done)))
    | ((with_reducible apply runO_callF known63); simp only [go_sem, *]; refine (ci _).use ?_; (with_reducible apply runO_go); simp only [go_sem, *]))
    clear ci
    have HA : Hid _ := hall
    clear hall
    refine run_loop (fun m e H' => ∃ k : Nat, k ≤ l.length ∧ m = l.length - k ∧ e 0 = .list (evsC l) ∧ e 11 = .list (evsC l) ∧ e 12 = .v (.int .i64 (l.length : Int)) ∧ e 13 = .v (.int .i64 (k : Int)) ∧ Coll H 111 4 (clksC (clkU l k)) (e 2) H') l.length
        ⟨0, Nat.zero_le _, rfl, (by simp only [go_sem, *]), (by simp only [go_sem, *]), (by simp only [go_sem, *]), by simp only [go_sem] <;> rfl, by simp only [go_sem]; exact .none rfl⟩ ?_
    rintro n e H' ih ⟨k, hk, rfl, h0, h11, h12, h13, hc⟩
    have IH : Hid _ := ih
    clear ih
    generalize h2 : e 2 = d at hc
    by_cases hlt : k < l.length
    · have hw : IntKind.i64.wrap ((k : Int) + 1) = ((k + 1 : Nat) : Int) := by rw [wrap_nat (by omega) (by omega)]; rfl
      have hkl : k ≤ l.length := hk
      have hev := evsC_all l
      have hkt : (l.take k).length = k := by rw [List.length_take]; omega
      have hsl := evsC_all (l.take k)
      generalize he : l.getD k default = ek
      have hrk : rightR ek = true := by
        rw [← he]
        exact List.all_eq_true.1 HA.out _ (by simp [List.getD, hlt])
      repeat' (first
    | (with_reducible apply run_seq)
    | (with_reducible apply run_block)
    | (with_reducible apply run_skip)
    | ((with_reducible apply run_go); simp only [go_sem, *])
    | ((with_reducible apply run_cond_t); (focus (simp only [go_sem, *]; done)))
    | ((with_reducible apply runO_alloc); (focus (simp only [go_sem, *]; rfl)); intro pb hpb; have hfb := Heap.ne_of_none hpb; (try simp only [Heap.set_none'] at hpb); (with_reducible apply runO_go); simp only [go_sem, *])
    | ((with_reducible apply runO_store); (focus (simp only [go_sem]; rfl)); (focus (simp only [go_sem, *]; rfl)); (focus (simp only [go_sem, *]; rfl)); (focus (simp only [go_sem, *]; done)); (focus (simp only [go_sem, *]; done)); (focus (simp only [go_sem, *]; done)); (with_reducible apply runO_go); simp only [go_sem, *, Heap.set_set])
    | ((first | (with_reducible apply runA_and) | (with_reducible apply runO_and) | (with_reducible apply runD_and)); (focus (first | assumption | (simp only [go_sem, *]; done) | (simp only [go_sem, *]; assumption))); (try simp only [go_sem, *])))
      rename_i p4 hp4 hf4
      clear hf4 hfb
      have hjk : ∀ i, i ≤ k → OkC k (jf (clkU l k) l ek i) := fun i hi => OkC.jf (okC_clkU l k) i (by rw [clkU_length]; exact hi)
      have HJ : Hid _ := hjk
      clear hjk hev hsl
      refine run_loop (fun m e' H2 => ∃ i : Nat, i ≤ k ∧ m = k - i ∧ e' 0 = .list (evsC l) ∧ e' 2 = d ∧ e' 3 = .v (.int .i64 (k : Int)) ∧ e' 4 = .v (.pointer (some ⟨p4, 0, none⟩)) ∧ e' 5 = .v (.pointer (some ⟨pb, 0, none⟩)) ∧ e' 11 = .list (evsC l) ∧
          e' 12 = .v (.int .i64 (l.length : Int)) ∧ e' 13 = .v (.int .i64 (k : Int)) ∧ e' 20 = .list (evsC (l.take k)) ∧ e' 21 = .v (.int .i64 (k : Int)) ∧ e' 22 = .v (.int .i64 (i : Int)) ∧
          H2 = (H'.set p4 (.cells (evC ek) 55)).set pb (.cells (iC (jf (clkU l k) l ek i)) 111)) k
          ⟨0, Nat.zero_le _, rfl, (by simp only [go_sem, *]), (by simp only [go_sem, *]), (by simp only [go_sem, *]), (by simp only [go_sem, *]), (by simp only [go_sem, *]), (by simp only [go_sem, *]), (by simp only [go_sem, *]), (by simp only [go_sem, *]), (by simp only [go_sem, *]), (by simp only [go_sem, *]), by simp only [go_sem] <;> rfl, rfl⟩ ?_
      rintro m e' H2 ih ⟨i, hi, rfl, g0, g2, g3, g4, g5, g11, g12, g13, g20, g21, g22, rfl⟩
      have IHi : Hid _ := ih
      clear ih h0 h2 h11 h12 h13 e
      by_cases hik : i < k
      · have hwi : IntKind.i64.wrap ((i : Int) + 1) = ((i + 1 : Nat) : Int) := by rw [wrap_nat (by omega) (by omega)]; rfl
        have hx : (l.take k).getD i default = l.getD i default := by simp [List.getD, hik]
        have hcl := clkU_length l k
        have hj4 := (HJ.out i (by omega)).1
        have hci : (clkU l k).getD i [] ∈ clkU l k := by simp [List.getD, List.getElem?_eq_getElem (show i < (clkU l k).length by omega)]
        have hc4 := (okC_clkU l k _ hci).1
        clear hci
        have hjs : jf (clkU l k) l ek (i + 1) = if depE (l.getD i default) ek then joinI (jf (clkU l k) l ek i) ((clkU l k).getD i []) else jf (clkU l k) l ek i := rfl
        cases hc with
        | none hn => exfalso; rw [← clksC_length, hn] at hcl; simp at hcl; omega
        | some b cap hb =>
          simp only [Heap.set_none'] at hp4 hpb
          have ht4 : (iC ((clkU l k).getD i [])).take 4 = iC ((clkU l k).getD i []) := List.take_of_length_le (by rw [iC_length, hc4]; exact Nat.le_refl _)
          by_cases hd : depE (l.getD i default) ek = true
          · rw [if_pos hd] at hjs
            generalize hp5e : pb = p5 at *
            repeat' (first
    | (with_reducible apply run_seq)
    | (with_reducible apply run_block)
    | (with_reducible apply run_inBlock)
    | (with_reducible apply run_skip)
    | ((with_reducible apply run_go); simp only [go_sem, *])
    | ((with_reducible apply run_cond_t); (focus (simp only [go_sem, *]; done)))
    | ((with_reducible apply runO_alloc); (focus (simp only [go_sem, *]; rfl)); intro pb hpb; have hfb := Heap.ne_of_none hpb; (try simp only [Heap.set_none'] at hpb); (with_reducible apply runO_go); simp only [go_sem, *])
    | ((with_reducible apply runO_store); (focus (simp only [go_sem]; rfl)); (focus (simp only [go_sem, *]; rfl)); (focus (simp only [go_sem, *]; rfl)); (focus (simp only [go_sem, *]; done)); (focus (simp only [go_sem, *]; done)); (focus (simp only [go_sem, *]; done)); (with_reducible apply runO_go); simp only [go_sem, *, Heap.set_set])
    | ((with_reducible apply runO_callF known32); simp only [go_sem, *]; refine (dep_call W _ _ _).use ?_; (with_reducible apply runO_go); simp only [go_sem, *])
    | ((with_reducible apply runO_callF known83); simp only [go_sem, *]; refine (join_call W _ p5 111 (jf (clkU l k) l ek i) ((clkU l k).getD i []) hj4 hc4 (by simp only [go_sem, *])).mono (fun d H1 hh1 => ?_); subst hh1; (with_reducible apply runO_go); simp only [go_sem, *]))
            refine run_drop (H' := ((H.set b (.grow 111 (clksC (clkU l k)).length cap 4)).set p4 (.cells (evC ek) 55)).set p5 (.cells (iC (jf (clkU l k) l ek (i + 1))) 111)) ?_ ?_
            · simp only [clksC_length, hcl, hjs]
              repeat (first | assumption | exact Heap.sub_refl _ | refine Heap.sub_congr ?_ | refine Heap.sub_set ?_ (by assumption) | refine Heap.sub_set2 ?_ (by first | assumption | (simp only [*]; done) | (simp only [Heap.set_none', ne_eq, *, not_false_eq_true, and_self]; done)))
            refine IHi.out (k - (i + 1)) _ _ (by omega) ⟨i + 1, by omega, rfl, (by simp only [go_sem, *]), (by simp only [go_sem, *]), (by simp only [go_sem, *]), (by simp only [go_sem, *]), (by simp only [go_sem, *]), (by simp only [go_sem, *]), (by simp only [go_sem, *]), (by simp only [go_sem, *]), (by simp only [go_sem, *]), (by simp only [go_sem, *]), (by simp only [go_sem, *]), rfl⟩
          · rw [if_neg hd] at hjs
            have hd' : depE (l.getD i default) ek = false := by simpa using hd
            repeat' (first
    | (with_reducible apply run_seq)
    | (with_reducible apply run_block)
    | (with_reducible apply run_inBlock)
    | (with_reducible apply run_skip)
    | ((with_reducible apply run_go); simp only [go_sem, *])
    | ((with_reducible apply run_cond_t); (focus (simp only [go_sem, *]; done)))
    | ((with_reducible apply run_cond_f); (focus (simp only [go_sem, *]; done)))
    | ((with_reducible apply runO_alloc); (focus (simp only [go_sem, *]; rfl)); intro pb hpb; have hfb := Heap.ne_of_none hpb; (try simp only [Heap.set_none'] at hpb); (with_reducible apply runO_go); simp only [go_sem, *])
    | ((with_reducible apply runO_store); (focus (simp only [go_sem]; rfl)); (focus (simp only [go_sem, *]; rfl)); (focus (simp only [go_sem, *]; rfl)); (focus (simp only [go_sem, *]; done)); (focus (simp only [go_sem, *]; done)); (focus (simp only [go_sem, *]; done)); (with_reducible apply runO_go); simp only [go_sem, *, Heap.set_set])
    | ((with_reducible apply runO_callF known32); simp only [go_sem, *]; refine (dep_call W _ _ _).use ?_; (with_reducible apply runO_go); simp only [go_sem, *]))
            refine run_drop (Heap.sub_set (Heap.sub_refl _) (by simp only [Heap.set_none']; assumption)) ?_
            refine IHi.out (k - (i + 1)) _ _ (by omega) ⟨i + 1, by omega, rfl, (by simp only [go_sem, *]), (by simp only [go_sem, *]), (by simp only [go_sem, *]), (by simp only [go_sem, *]), (by simp only [go_sem, *]), (by simp only [go_sem, *]), (by simp only [go_sem, *]), (by simp only [go_sem, *]), (by simp only [go_sem, *]), (by simp only [go_sem, *]), (by simp only [go_sem, *]), by simp only [clksC_length, hcl, hjs]⟩
      · obtain rfl : i = k := by omega
        have hb4 := right_bounds hrk
        have hj := HJ.out i (Nat.le_refl _)
        generalize hJ : jf (clkU l i) l ek i = J at hj
        obtain ⟨c0, c1, c2, c3, rfl⟩ : ∃ c0 c1 c2 c3, J = [c0, c1, c2, c3] := by
          obtain ⟨hj, _⟩ := hj
          match J, hj with
          | [c0, c1, c2, c3], _ => exact ⟨c0, c1, c2, c3, rfl⟩
        have hjb := hj.2
        simp only [List.mem_cons, List.not_mem_nil, or_false, forall_eq_or_imp, forall_eq] at hjb
        have ht : ek.th = 0 ∨ ek.th = 1 ∨ ek.th = 2 ∨ ek.th = 3 := by omega
        have hcu : clkU l (i + 1) = clkU l i ++ [bump ek.th [c0, c1, c2, c3]] := by rw [clkU, he, hJ]
        simp only [iC, List.map_cons, List.map_nil]
        rcases ht with ht | ht | ht | ht
        · have hwc : IntKind.i64.wrap (c0 + 1) = c0 + 1 := wrap_nat (by omega) (by omega)
          clear hjb
          rw [ht] at hcu
          repeat' (first
    | (with_reducible apply run_seq)
    | (with_reducible apply run_exit rfl)
    | ((with_reducible apply run_go); simp only [go_sem, *])
    | ((with_reducible apply run_cond_f); (focus (simp only [go_sem, *]; done)))
    | ((with_reducible apply runO_store); (focus (simp only [go_sem]; rfl)); (focus (simp only [go_sem, *]; rfl)); (focus (simp only [go_sem, *]; rfl)); (focus (simp only [go_sem, *]; done)); (focus (simp only [go_sem, *]; done)); (focus (simp only [go_sem, *]; done)); (with_reducible apply runO_go); simp only [go_sem, *, Heap.set_set])
    | ((with_reducible apply runO_buildSlice); (focus (simp only [go_sem]; rfl)); (focus (simp only [go_sem]; rfl)); (focus (simp only [go_sem]; rfl)); (focus rfl); (focus rfl); (focus (simp only [go_sem, *]; done)); (focus (simp only [go_sem, *]; done)); (focus decide); (with_reducible apply runO_go); simp only [go_sem, *]))
          refine runO_drop (H' := H') (by repeat (first | assumption | exact Heap.sub_refl _ | refine Heap.sub_congr ?_ | refine Heap.sub_set ?_ (by assumption) | refine Heap.sub_set2 ?_ (by first | assumption | (simp only [*]; done) | (simp only [Heap.set_none', ne_eq, *, not_false_eq_true, and_self]; done)))) ?_
          have hcl := clkU_length l i
          (refine runO_coll (t := 109) Try.underlying109 sz111 by111 zr111 rfl (by simp only [go_sem, *]; exact hc) (by simp only [go_sem, *]; rfl) (clksC_all i) (by simp) (by (try simp only [List.length_range, List.length_map, List.length_take, List.length_cons, List.length_nil, List.length_append, go_sem]); omega) (by (try simp only [maxLen, List.length_range, List.length_map, List.length_take, List.length_cons, List.length_nil, List.length_append, go_sem]); omega) (fun d1 H1 hc1 => ?_); (with_reducible apply runO_go); simp only [go_sem, *])
          repeat' (first
    | (with_reducible apply run_inBlock)
    | ((with_reducible apply run_go); simp only [go_sem, *]))
          refine IH.out (l.length - (i + 1)) _ _ (by omega) ⟨i + 1, by omega, rfl, (by simp only [go_sem, *]), (by simp only [go_sem, *]), (by simp only [go_sem, *]), (by simp only [go_sem, *]), ?_⟩
          simp only [go_sem]
          rw [hcu]
          simpa [clksC, iC, bump] using hc1
        · have hwc : IntKind.i64.wrap (c1 + 1) = c1 + 1 := wrap_nat (by omega) (by omega)
          clear hjb
          rw [ht] at hcu
          repeat' (first
    | (with_reducible apply run_seq)
    | (with_reducible apply run_exit rfl)
    | ((with_reducible apply run_go); simp only [go_sem, *])
    | ((with_reducible apply run_cond_f); (focus (simp only [go_sem, *]; done)))
    | ((with_reducible apply runO_store); (focus (simp only [go_sem]; rfl)); (focus (simp only [go_sem, *]; rfl)); (focus (simp only [go_sem, *]; rfl)); (focus (simp only [go_sem, *]; done)); (focus (simp only [go_sem, *]; done)); (focus (simp only [go_sem, *]; done)); (with_reducible apply runO_go); simp only [go_sem, *, Heap.set_set])
    | ((with_reducible apply runO_buildSlice); (focus (simp only [go_sem]; rfl)); (focus (simp only [go_sem]; rfl)); (focus (simp only [go_sem]; rfl)); (focus rfl); (focus rfl); (focus (simp only [go_sem, *]; done)); (focus (simp only [go_sem, *]; done)); (focus decide); (with_reducible apply runO_go); simp only [go_sem, *]))
          refine runO_drop (H' := H') (by repeat (first | assumption | exact Heap.sub_refl _ | refine Heap.sub_congr ?_ | refine Heap.sub_set ?_ (by assumption) | refine Heap.sub_set2 ?_ (by first | assumption | (simp only [*]; done) | (simp only [Heap.set_none', ne_eq, *, not_false_eq_true, and_self]; done)))) ?_
          have hcl := clkU_length l i
          (refine runO_coll (t := 109) Try.underlying109 sz111 by111 zr111 rfl (by simp only [go_sem, *]; exact hc) (by simp only [go_sem, *]; rfl) (clksC_all i) (by simp) (by (try simp only [List.length_range, List.length_map, List.length_take, List.length_cons, List.length_nil, List.length_append, go_sem]); omega) (by (try simp only [maxLen, List.length_range, List.length_map, List.length_take, List.length_cons, List.length_nil, List.length_append, go_sem]); omega) (fun d1 H1 hc1 => ?_); (with_reducible apply runO_go); simp only [go_sem, *])
          repeat' (first
    | (with_reducible apply run_inBlock)
    | ((with_reducible apply run_go); simp only [go_sem, *]))
          refine IH.out (l.length - (i + 1)) _ _ (by omega) ⟨i + 1, by omega, rfl, (by simp only [go_sem, *]), (by simp only [go_sem, *]), (by simp only [go_sem, *]), (by simp only [go_sem, *]), ?_⟩
          simp only [go_sem]
          rw [hcu]
          simpa [clksC, iC, bump] using hc1
        · have hwc : IntKind.i64.wrap (c2 + 1) = c2 + 1 := wrap_nat (by omega) (by omega)
          clear hjb
          rw [ht] at hcu
          repeat' (first
    | (with_reducible apply run_seq)
    | (with_reducible apply run_exit rfl)
    | ((with_reducible apply run_go); simp only [go_sem, *])
    | ((with_reducible apply run_cond_f); (focus (simp only [go_sem, *]; done)))
    | ((with_reducible apply runO_store); (focus (simp only [go_sem]; rfl)); (focus (simp only [go_sem, *]; rfl)); (focus (simp only [go_sem, *]; rfl)); (focus (simp only [go_sem, *]; done)); (focus (simp only [go_sem, *]; done)); (focus (simp only [go_sem, *]; done)); (with_reducible apply runO_go); simp only [go_sem, *, Heap.set_set])
    | ((with_reducible apply runO_buildSlice); (focus (simp only [go_sem]; rfl)); (focus (simp only [go_sem]; rfl)); (focus (simp only [go_sem]; rfl)); (focus rfl); (focus rfl); (focus (simp only [go_sem, *]; done)); (focus (simp only [go_sem, *]; done)); (focus decide); (with_reducible apply runO_go); simp only [go_sem, *]))
          refine runO_drop (H' := H') (by repeat (first | assumption | exact Heap.sub_refl _ | refine Heap.sub_congr ?_ | refine Heap.sub_set ?_ (by assumption) | refine Heap.sub_set2 ?_ (by first | assumption | (simp only [*]; done) | (simp only [Heap.set_none', ne_eq, *, not_false_eq_true, and_self]; done)))) ?_
          have hcl := clkU_length l i
          (refine runO_coll (t := 109) Try.underlying109 sz111 by111 zr111 rfl (by simp only [go_sem, *]; exact hc) (by simp only [go_sem, *]; rfl) (clksC_all i) (by simp) (by (try simp only [List.length_range, List.length_map, List.length_take, List.length_cons, List.length_nil, List.length_append, go_sem]); omega) (by (try simp only [maxLen, List.length_range, List.length_map, List.length_take, List.length_cons, List.length_nil, List.length_append, go_sem]); omega) (fun d1 H1 hc1 => ?_); (with_reducible apply runO_go); simp only [go_sem, *])
          repeat' (first
    | (with_reducible apply run_inBlock)
    | ((with_reducible apply run_go); simp only [go_sem, *]))
          refine IH.out (l.length - (i + 1)) _ _ (by omega) ⟨i + 1, by omega, rfl, (by simp only [go_sem, *]), (by simp only [go_sem, *]), (by simp only [go_sem, *]), (by simp only [go_sem, *]), ?_⟩
          simp only [go_sem]
          rw [hcu]
          simpa [clksC, iC, bump] using hc1
        · have hwc : IntKind.i64.wrap (c3 + 1) = c3 + 1 := wrap_nat (by omega) (by omega)
          clear hjb
          rw [ht] at hcu
          repeat' (first
    | (with_reducible apply run_seq)
    | (with_reducible apply run_exit rfl)
    | ((with_reducible apply run_go); simp only [go_sem, *])
    | ((with_reducible apply run_cond_f); (focus (simp only [go_sem, *]; done)))
    | ((with_reducible apply runO_store); (focus (simp only [go_sem]; rfl)); (focus (simp only [go_sem, *]; rfl)); (focus (simp only [go_sem, *]; rfl)); (focus (simp only [go_sem, *]; done)); (focus (simp only [go_sem, *]; done)); (focus (simp only [go_sem, *]; done)); (with_reducible apply runO_go); simp only [go_sem, *, Heap.set_set])
    | ((with_reducible apply runO_buildSlice); (focus (simp only [go_sem]; rfl)); (focus (simp only [go_sem]; rfl)); (focus (simp only [go_sem]; rfl)); (focus rfl); (focus rfl); (focus (simp only [go_sem, *]; done)); (focus (simp only [go_sem, *]; done)); (focus decide); (with_reducible apply runO_go); simp only [go_sem, *]))
          refine runO_drop (H' := H') (by repeat (first | assumption | exact Heap.sub_refl _ | refine Heap.sub_congr ?_ | refine Heap.sub_set ?_ (by assumption) | refine Heap.sub_set2 ?_ (by first | assumption | (simp only [*]; done) | (simp only [Heap.set_none', ne_eq, *, not_false_eq_true, and_self]; done)))) ?_
          have hcl := clkU_length l i
          (refine runO_coll (t := 109) Try.underlying109 sz111 by111 zr111 rfl (by simp only [go_sem, *]; exact hc) (by simp only [go_sem, *]; rfl) (clksC_all i) (by simp) (by (try simp only [List.length_range, List.length_map, List.length_take, List.length_cons, List.length_nil, List.length_append, go_sem]); omega) (by (try simp only [maxLen, List.length_range, List.length_map, List.length_take, List.length_cons, List.length_nil, List.length_append, go_sem]); omega) (fun d1 H1 hc1 => ?_); (with_reducible apply runO_go); simp only [go_sem, *])
          repeat' (first
    | (with_reducible apply run_inBlock)
    | ((with_reducible apply run_go); simp only [go_sem, *]))
          refine IH.out (l.length - (i + 1)) _ _ (by omega) ⟨i + 1, by omega, rfl, (by simp only [go_sem, *]), (by simp only [go_sem, *]), (by simp only [go_sem, *]), (by simp only [go_sem, *]), ?_⟩
          simp only [go_sem]
          rw [hcu]
          simpa [clksC, iC, bump] using hc1

    · have hfl := hc.flat
      have hsub := hc.sub
      repeat' (first
    | (with_reducible apply run_seq)
    | (with_reducible apply run_exit rfl)
    | ((with_reducible apply run_go); simp only [go_sem, *])
    | ((with_reducible apply run_cond_f); (focus (simp only [go_sem, *]; done)))
    | ((with_reducible apply run_ret Try.func64 res64 (H' := H)); (focus (simp only [go_sem, *]; rfl)); (focus trivial); (focus (repeat (first | assumption | exact Heap.sub_refl _ | refine Heap.sub_congr ?_ | refine Heap.sub_set ?_ (by assumption) | refine Heap.sub_set2 ?_ (by first | assumption | (simp only [*]; done) | (simp only [Heap.set_none', ne_eq, *, not_false_eq_true, and_self]; done)))))))
      obtain rfl : k = l.length := by omega
      exact ⟨by rw [clksE, if_pos HA.out]; rfl, rfl⟩
  · have hall' : l.all rightR = false := by simpa using hall
    simp only [hall'] at ci
    repeat' (first
    | (with_reducible apply run_seq)
    | ((with_reducible apply run_go); simp only [go_sem, *])
    | ((with_reducible apply run_cond_t); (focus (simp only [go_sem, *]; done)))
    | ((with_reducible apply runO_callF known63); simp only [go_sem, *]; refine (ci _).use ?_; (with_reducible apply runO_go); simp only [go_sem, *])
    | ((with_reducible apply run_ret Try.func64 res64 (H' := H)); (focus (simp only [go_sem, *]; rfl)); (focus trivial); (focus (repeat (first | assumption | exact Heap.sub_refl _ | refine Heap.sub_congr ?_ | refine Heap.sub_set ?_ (by assumption) | refine Heap.sub_set2 ?_ (by first | assumption | (simp only [*]; done) | (simp only [Heap.set_none', ne_eq, *, not_false_eq_true, and_self]; done)))))))
    exact ⟨by rw [clksE, if_neg hall]; rfl, rfl⟩
end Go.Proofs.Ytobdagjdhgjplaa
set_option linter.unusedSimpArgs false
set_option linter.unusedVariables false
namespace Go.Proofs.Ytobdagjdhgjplaa
open Go Go.Sn Go.RowKit

@[go_sem] theorem iC_cons (a : Int) (l : List Int) : iC (a :: l) = .v (.int .i64 a) :: iC l := rfl
@[go_sem] theorem iC_nil : iC [] = [] := rfl
@[go_sem] theorem iC_one (c : List Int) : (iC c).all D.one = true := by
  rw [List.all_eq_true]
  intro d hd
  simp only [iC, List.mem_map] at hd
  obtain ⟨n, _, rfl⟩ := hd
  rfl
theorem okC_getD {l : List Ev} {k n : Nat} (h : n < k) : OkC k ((clkU l k).getD n []) :=
  okC_clkU l k _ (by simp [List.getD, List.getElem?_eq_getElem (show n < (clkU l k).length by rw [clkU_length]; exact h)])
theorem four_of {c : List Int} (h : c.length = 4) : ∃ c0 c1 c2 c3, c = [c0, c1, c2, c3] := by
  match c, h with
  | [c0, c1, c2, c3], _ => exact ⟨c0, c1, c2, c3, rfl⟩
theorem rightR_getD {l : List Ev} (h : l.all rightR = true) {k : Nat} (hk : k < l.length) : rightR (l.getD k default) = true :=
  List.all_eq_true.1 h _ (by simp [List.getD, hk])
def beforeN (l : List Ev) (i k : Int) : Bool :=
  if decide (imin i k < 0) || decide ((l.length : Int) ≤ imax i k) || !l.all rightR then false
  else decide (i ≤ k) && decide (numN l i ≤ ((clkU l l.length).getD k.toNat []).getD (l.getD i.toNat default).th.toNat 0)
/-- A thread's last clock among the first. -/
def lastU (l : List Ev) (t : Int) : Nat → List Int
  | 0 => [0, 0, 0, 0]
  | k + 1 => if (l.getD k default).th = t then (clkU l l.length).getD k [] else lastU l t k
def lastE (l : List Ev) (t : Int) : List Int := if l.all rightR then lastU l t l.length else [0, 0, 0, 0]
theorem lastU_length (l : List Ev) (t : Int) : ∀ k, k ≤ l.length → (lastU l t k).length = 4
  | 0, _ => rfl
  | k + 1, h => by
    unfold lastU
    split
    · exact (okC_getD (by omega)).1
    · exact lastU_length l t k (by omega)
theorem last_call (W : World) (H : Heap) (l : List Ev) (t : Int) (hl : l.length ≤ 100000) :
    CallA Try.prog W 80 [.list (evsC l), .v (.int .i64 t)] H fun r H' => r = .agg (iC (lastE l t)) ∧ H' = H := by
  refine call_in Try.func80 rfl Try.ntmps80 (by simp) ?_
  have cc := fun H => clocks_call W H l hl
  by_cases hall : l.all rightR = true
  · have he : clksE l = clkU l l.length := by rw [clksE, if_pos hall]
    have hel : (clkU l l.length).length = l.length := clkU_length l l.length
    have hlast : lastE l t = lastU l t l.length := by rw [lastE, if_pos hall]
    rw [hlast]
    clear hlast
    rw [he] at cc
    repeat' (first
    | (with_reducible apply run_seq)
    | (with_reducible apply run_block)
    | ((with_reducible apply run_go); simp only [go_sem, *])
    | ((with_reducible apply runO_alloc); (focus (simp only [go_sem, *]; rfl)); intro pb hpb; have hfb := Heap.ne_of_none hpb; (try simp only [Heap.set_none'] at hpb); (with_reducible apply runO_go); simp only [go_sem, *])
    | ((with_reducible apply runO_callF known64); simp only [go_sem, *]; refine (cc _).use ?_; (with_reducible apply runO_go); simp only [go_sem, *]))
    clear cc
    refine run_loop (fun m e H' => ∃ k : Nat, k ≤ l.length ∧ m = l.length - k ∧ e 0 = .list (evsC l) ∧ e 1 = .v (.int .i64 t) ∧ e 4 = .v (.pointer (some ⟨pb, 0, none⟩)) ∧ e 8 = .list (clksC (clkU l l.length)) ∧ e 9 = .v (.int .i64 (l.length : Int)) ∧ e 10 = .v (.int .i64 (k : Int)) ∧
        H' = H.set pb (.cells (iC (lastU l t k)) 111)) l.length
        ⟨0, Nat.zero_le _, rfl, (by simp only [go_sem, *]), (by simp only [go_sem, *]), (by simp only [go_sem, *]), (by simp only [go_sem, *]), (by simp only [go_sem, *]), by simp only [go_sem] <;> rfl, rfl⟩ ?_
    rintro n e H' ih ⟨k, hk, rfl, h0, h1, h4, h8, h9, h10, rfl⟩
    have IH : Hid _ := ih
    clear ih
    generalize pb = pc at *
    have hlu := lastU_length l t k hk
    have htk : (iC (lastU l t k)).take 4 = iC (lastU l t k) := List.take_of_length_le (by rw [iC_length, hlu]; exact Nat.le_refl _)
    have hdk : (iC (lastU l t k)).drop 4 = [] := List.drop_of_length_le (by rw [iC_length, hlu]; exact Nat.le_refl _)
    by_cases hlt : k < l.length
    · have hw : IntKind.i64.wrap ((k : Int) + 1) = ((k + 1 : Nat) : Int) := by rw [wrap_nat (by omega) (by omega)]; rfl
      have hck := (okC_getD (l := l) hlt).1
      have hlen : (iC ((clkU l l.length).getD k [])).length = 4 := by rw [iC_length, hck]
      have htk2 : (iC ((clkU l l.length).getD k [])).take 4 = iC ((clkU l l.length).getD k []) := List.take_of_length_le (by rw [hlen]; exact Nat.le_refl _)
      by_cases hr : (l.getD k default).th = t
      · have hlk : lastU l t (k + 1) = (clkU l l.length).getD k [] := by rw [lastU, if_pos hr]
        repeat' (first
    | (with_reducible apply run_seq)
    | (with_reducible apply run_block)
    | (with_reducible apply run_inBlock)
    | (with_reducible apply run_skip)
    | ((with_reducible apply run_go); simp only [go_sem, *])
    | ((with_reducible apply run_cond_t); (focus (simp only [go_sem, *]; done)))
    | ((with_reducible apply runO_alloc); (focus (simp only [go_sem, *]; rfl)); intro pb hpb; have hfb := Heap.ne_of_none hpb; (try simp only [Heap.set_none'] at hpb); (with_reducible apply runO_go); simp only [go_sem, *])
    | ((with_reducible apply runO_store); (focus (simp only [go_sem]; rfl)); (focus (simp only [go_sem, *]; rfl)); (focus (simp only [go_sem, *]; rfl)); (focus (simp only [go_sem, *]; done)); (focus (simp only [go_sem, *]; done)); (focus (simp only [go_sem, *]; done)); (with_reducible apply runO_go); simp only [go_sem, *, Heap.set_set]))
        refine run_drop (H' := H.set pc (.cells (iC (lastU l t (k + 1))) 111)) ?_ ?_
        · simp only [hlk]
          repeat (first | assumption | exact Heap.sub_refl _ | refine Heap.sub_congr ?_ | refine Heap.sub_set ?_ (by assumption) | refine Heap.sub_set2 ?_ (by first | assumption | (simp only [*]; done) | (simp only [Heap.set_none', ne_eq, *, not_false_eq_true, and_self]; done)))
        refine IH.out (l.length - (k + 1)) _ _ (by omega) ⟨k + 1, by omega, rfl, (by simp only [go_sem, *]), (by simp only [go_sem, *]), (by simp only [go_sem, *]), (by simp only [go_sem, *]), (by simp only [go_sem, *]), (by simp only [go_sem, *]), rfl⟩
      · have hlk : lastU l t (k + 1) = lastU l t k := by rw [lastU, if_neg hr]
        repeat' (first
    | (with_reducible apply run_seq)
    | (with_reducible apply run_block)
    | (with_reducible apply run_inBlock)
    | (with_reducible apply run_skip)
    | ((with_reducible apply run_go); simp only [go_sem, *])
    | ((with_reducible apply run_cond_t); (focus (simp only [go_sem, *]; done)))
    | ((with_reducible apply run_cond_f); (focus (simp only [go_sem, *]; done)))
    | ((with_reducible apply runO_alloc); (focus (simp only [go_sem, *]; rfl)); intro pb hpb; have hfb := Heap.ne_of_none hpb; (try simp only [Heap.set_none'] at hpb); (with_reducible apply runO_go); simp only [go_sem, *])
    | ((with_reducible apply runO_store); (focus (simp only [go_sem]; rfl)); (focus (simp only [go_sem, *]; rfl)); (focus (simp only [go_sem, *]; rfl)); (focus (simp only [go_sem, *]; done)); (focus (simp only [go_sem, *]; done)); (focus (simp only [go_sem, *]; done)); (with_reducible apply runO_go); simp only [go_sem, *, Heap.set_set]))
        refine run_drop (H' := H.set pc (.cells (iC (lastU l t (k + 1))) 111)) ?_ ?_
        · simp only [hlk]
          repeat (first | assumption | exact Heap.sub_refl _ | refine Heap.sub_congr ?_ | refine Heap.sub_set ?_ (by assumption) | refine Heap.sub_set2 ?_ (by first | assumption | (simp only [*]; done) | (simp only [Heap.set_none', ne_eq, *, not_false_eq_true, and_self]; done)))
        refine IH.out (l.length - (k + 1)) _ _ (by omega) ⟨k + 1, by omega, rfl, (by simp only [go_sem, *]), (by simp only [go_sem, *]), (by simp only [go_sem, *]), (by simp only [go_sem, *]), (by simp only [go_sem, *]), (by simp only [go_sem, *]), rfl⟩
    · obtain rfl : k = l.length := by omega
      repeat' (first
    | (with_reducible apply run_seq)
    | (with_reducible apply run_exit rfl)
    | ((with_reducible apply run_go); simp only [go_sem, *])
    | ((with_reducible apply run_cond_f); (focus (simp only [go_sem, *]; done)))
    | ((with_reducible apply runO_store); (focus (simp only [go_sem]; rfl)); (focus (simp only [go_sem, *]; rfl)); (focus (simp only [go_sem, *]; rfl)); (focus (simp only [go_sem, *]; done)); (focus (simp only [go_sem, *]; done)); (focus (simp only [go_sem, *]; done)); (with_reducible apply runO_go); simp only [go_sem, *, Heap.set_set])
    | ((with_reducible apply run_ret Try.func80 res80 (H' := H)); (focus (simp only [go_sem, *]; rfl)); (focus trivial); (focus (repeat (first | assumption | exact Heap.sub_refl _ | refine Heap.sub_congr ?_ | refine Heap.sub_set ?_ (by assumption) | refine Heap.sub_set2 ?_ (by first | assumption | (simp only [*]; done) | (simp only [Heap.set_none', ne_eq, *, not_false_eq_true, and_self]; done)))))))
      exact ⟨rfl, rfl⟩
  · have hall' : l.all rightR = false := by simpa using hall
    have he : clksE l = [] := by rw [clksE, if_neg hall]
    have hlast : lastE l t = [0, 0, 0, 0] := by rw [lastE, if_neg hall]
    rw [he] at cc
    rw [hlast]
    simp only [clksC, List.map_nil] at cc
    repeat' (first
    | (with_reducible apply run_seq)
    | (with_reducible apply run_block)
    | ((with_reducible apply run_go); simp only [go_sem, *])
    | ((with_reducible apply runO_alloc); (focus (simp only [go_sem, *]; rfl)); intro pb hpb; have hfb := Heap.ne_of_none hpb; (try simp only [Heap.set_none'] at hpb); (with_reducible apply runO_go); simp only [go_sem, *])
    | ((with_reducible apply runO_callF known64); simp only [go_sem, *]; refine (cc _).use ?_; (with_reducible apply runO_go); simp only [go_sem, *]))
    refine run_loop1 ?_
    repeat' (first
    | (with_reducible apply run_seq)
    | (with_reducible apply run_exit rfl)
    | ((with_reducible apply run_go); simp only [go_sem, *])
    | ((with_reducible apply run_cond_f); (focus (simp only [go_sem, *]; done)))
    | ((with_reducible apply runO_store); (focus (simp only [go_sem]; rfl)); (focus (simp only [go_sem, *]; rfl)); (focus (simp only [go_sem, *]; rfl)); (focus (simp only [go_sem, *]; done)); (focus (simp only [go_sem, *]; done)); (focus (simp only [go_sem, *]; done)); (with_reducible apply runO_go); simp only [go_sem, *, Heap.set_set])
    | ((with_reducible apply run_ret Try.func80 res80 (H' := H)); (focus (simp only [go_sem, *]; rfl)); (focus trivial); (focus (repeat (first | assumption | exact Heap.sub_refl _ | refine Heap.sub_congr ?_ | refine Heap.sub_set ?_ (by assumption) | refine Heap.sub_set2 ?_ (by first | assumption | (simp only [*]; done) | (simp only [Heap.set_none', ne_eq, *, not_false_eq_true, and_self]; done)))))))
    exact ⟨rfl, rfl⟩
end Go.Proofs.Ytobdagjdhgjplaa
set_option linter.unusedSimpArgs false
set_option linter.unusedVariables false
namespace Go.Proofs.Ytobdagjdhgjplaa
open Go Go.Sn Go.RowKit

/-- Truth values, as cells. -/
def bC (r : List Bool) : List D := r.map fun b => .v (.bool b)
@[go_sem] theorem bC_get (r : List Bool) (n : Nat) (h : n < r.length) : (bC r).getD n default = .v (.bool (r.getD n false)) := by simp [bC, List.getD, h]
@[go_sem] theorem bC_length (r : List Bool) : (bC r).length = r.length := by simp [bC]
/-- .. as elements of a slice. -/
def boolsC (r : List Bool) : List (List D) := r.map fun b => [.v (.bool b)]
@[go_sem] theorem boolsC_length (r : List Bool) : (boolsC r).length = r.length := by simp [boolsC]
@[go_sem] theorem boolsC_get (r : List Bool) (n : Nat) (h : n < r.length) : (boolsC r).getD n [] = [.v (.bool (r.getD n false))] := by simp [boolsC, List.getD, h]
theorem boolsC_flat (r : List Bool) : (boolsC r).flatten = bC r := by
  induction r with
  | nil => rfl
  | cons b r ih => simp only [boolsC, bC, List.map_cons, List.flatten_cons] at ih ⊢; rw [ih]; rfl
theorem boolsC_all (r : List Bool) : ∀ x ∈ boolsC r, x.length = 1 := by intro ds h; simp only [boolsC, List.mem_map] at h; obtain ⟨n, _, rfl⟩ := h; rfl
/-- Rows of truth values. -/
def rowsC (o : List (List Bool)) : List (List D) := o.map fun r => [.list (boolsC r)]
@[go_sem] theorem rowsC_length (o : List (List Bool)) : (rowsC o).length = o.length := by simp [rowsC]
@[go_sem] theorem rowsC_get (o : List (List Bool)) (n : Nat) (h : n < o.length) : (rowsC o).getD n [] = [.list (boolsC (o.getD n []))] := by simp [rowsC, List.getD, h]
theorem rowsC_all (o : List (List Bool)) : ∀ x ∈ rowsC o, x.length = 1 := by intro ds h; simp only [rowsC, List.mem_map] at h; obtain ⟨n, _, rfl⟩ := h; rfl

/-- A row, another laid over its first `m` places. -/
def orM (row o : List Bool) (m : Nat) : List Bool := row.mapIdx fun j b => b || (decide (j < m) && o.getD j false)
theorem orM_length (row o : List Bool) (m : Nat) : (orM row o m).length = row.length := by simp [orM]
theorem orM_zero (row o : List Bool) : orM row o 0 = row := by
  apply List.ext_getElem (by simp [orM])
  intro i h1 h2
  simp [orM]
theorem orM_getD (row o : List Bool) (m j : Nat) (h : j < row.length) : (orM row o m).getD j false = (row.getD j false || (decide (j < m) && o.getD j false)) := by
  simp [orM, List.getD, h]
theorem orM_succ (row o : List Bool) (m : Nat) (h : m < row.length) : (orM row o m).set m ((orM row o m).getD m false || o.getD m false) = orM row o (m + 1) := by
  apply List.ext_getElem (by simp [orM])
  intro i h1 h2
  rw [List.getElem_set]
  have hi : i < row.length := by simpa [orM] using h2
  split
  · rename_i e
    subst e
    simp [orM, List.getD, hi]
  · rename_i e
    have hlt : (i < m + 1) ↔ (i < m) := by omega
    simp [orM, hlt]

theorem bC_put (r : List Bool) (n : Nat) (x : Bool) (h : n < r.length) : (bC r).take n ++ [D.v (.bool x)] ++ (bC r).drop (n + 1) = bC (r.set n x) := by
  rw [List.set_eq_take_append_cons_drop, if_pos h, bC, bC, List.map_append, List.map_cons, List.map_take, List.map_drop, List.append_assoc]
  rfl

/-- The row of `k`, when the `n` events ahead of it have been looked at. -/
def ordI (out : List (List Bool)) (l : List Ev) (k : Nat) : Nat → List Bool
  | 0 => (List.replicate l.length false).set k true
  | n + 1 => if depR (l.getD (k - 1 - n) default) (l.getD k default) then orM (ordI out l k n) (out.getD (k - 1 - n) []) (k - 1 - n + 1) else ordI out l k n
/-- The first `k` rows. -/
def ordU (l : List Ev) : Nat → List (List Bool)
  | 0 => []
  | k + 1 => ordU l k ++ [ordI (ordU l k) l k k]
theorem ordU_length (l : List Ev) : ∀ k, (ordU l k).length = k
  | 0 => rfl
  | k + 1 => by simp [ordU, ordU_length l k]
theorem ordI_length (out : List (List Bool)) (l : List Ev) (k : Nat) : ∀ n, (ordI out l k n).length = l.length
  | 0 => by simp [ordI]
  | n + 1 => by
    unfold ordI
    split
    · rw [orM_length]; exact ordI_length out l k n
    · exact ordI_length out l k n
theorem ordU_rows (l : List Ev) : ∀ k, ∀ r ∈ ordU l k, r.length = l.length
  | 0, r, h => by simp [ordU] at h
  | k + 1, r, h => by
    rcases List.mem_append.1 h with h | h
    · exact ordU_rows l k r h
    · rw [List.mem_singleton.1 h]; exact ordI_length _ _ _ _

theorem order_call (W : World) (H : Heap) (l : List Ev) (hl : l.length ≤ 100000) :
    CallA Try.prog W 81 [.list (evsC l)] H fun r H' => r = .list (rowsC (ordU l l.length)) ∧ H' = H := by
  refine call_in Try.func81 rfl Try.ntmps81 (by simp) ?_
  repeat' (first
    | (with_reducible apply run_seq)
    | (with_reducible apply run_block)
    | ((with_reducible apply run_go); simp only [go_sem, *]))
  refine run_loop (fun m e H' => ∃ k : Nat, k ≤ l.length ∧ m = l.length - k ∧ e 0 = .list (evsC l) ∧ e 4 = .v (.int .i64 (k : Int)) ∧ Coll H 126 1 (rowsC (ordU l k)) (e 3) H') l.length
      ⟨0, Nat.zero_le _, rfl, (by simp only [go_sem, *]), by simp only [go_sem] <;> rfl, by simp only [go_sem]; exact .none rfl⟩ ?_
  rintro n e H' ih ⟨k, hk, rfl, h0, h4, hc⟩
  have IH : Hid _ := ih
  clear ih
  generalize h3 : e 3 = d at hc
  by_cases hlt : k < l.length
  · repeat' (first
    | (with_reducible apply run_seq)
    | (with_reducible apply run_block)
    | (with_reducible apply run_skip)
    | ((with_reducible apply run_go); simp only [go_sem, *])
    | ((with_reducible apply run_cond_t); (focus (simp only [go_sem, *]; done))))
    refine runO_make_cells (k1 := .i64) (k2 := .i64) (c := l.length) Try.underlying126 sz4 by4 zr4 rfl (by decide) (by simp only [go_sem]) (by simp only [go_sem]) (by omega) (by simp only [maxLen]; omega) (fun b hb => ?_)
    have hrep : (List.replicate l.length [D.v (.bool false)]).flatten = bC (List.replicate l.length false) := by
      rw [bC, List.map_replicate]
      induction l.length with
      | zero => rfl
      | succ n ih => rw [List.replicate_succ, List.flatten_cons, ih]; rfl
    rw [hrep]
    clear hrep
    have hk1 : k + 1 ≤ l.length := hlt
    (with_reducible apply runO_go); simp only [go_sem]
    have hp0 := bC_put (List.replicate l.length false) k true (by simpa using hlt)
    repeat' (first
    | (with_reducible apply run_seq)
    | (with_reducible apply run_block)
    | ((with_reducible apply run_go); simp only [go_sem, *])
    | ((with_reducible apply runO_store); (focus (simp only [go_sem]; rfl)); (focus (simp only [go_sem, *]; rfl)); (focus (simp only [go_sem, *]; rfl)); (focus (simp only [go_sem, *]; done)); (focus (simp only [go_sem, *]; done)); (focus (simp only [go_sem, *]; done)); (with_reducible apply runO_go); simp only [go_sem, *, Heap.set_set]))
    have hwk : IntKind.i64.wrap ((k : Int) - 1) = (k : Int) - 1 := by rw [IntKind.wrap_i64]; omega
    have hor : (List.replicate l.length false).set k true = ordI (ordU l k) l k 0 := rfl
    rw [hor]
    refine run_loop (fun m e' H2 => ∃ n : Nat, n ≤ k ∧ m = k - n ∧ e' 0 = .list (evsC l) ∧ e' 3 = d ∧ e' 4 = .v (.int .i64 (k : Int)) ∧ e' 5 = .v (.slice (some ⟨b, 0, none⟩) l.length l.length) ∧ e' 6 = .v (.int .i64 ((k : Int) - 1 - (n : Int))) ∧
        H2 = H'.set b (.cells (bC (ordI (ordU l k) l k n)) 4)) k
        ⟨0, Nat.zero_le _, rfl, (by simp only [go_sem, *]), (by simp only [go_sem, *]), (by simp only [go_sem, *]), (by simp only [go_sem, *]), by simp only [go_sem, *]; simp, rfl⟩ ?_
    rintro m e' H2 ih ⟨n, hn, rfl, g0, g3, g4, g5, g6, rfl⟩
    have IHn : Hid _ := ih
    clear ih h0 h3 h4 hp0 hor e
    have hrl := ordI_length (ordU l k) l k n
    by_cases hnk : n < k
    · obtain ⟨i, hi⟩ : ∃ i : Nat, i = k - 1 - n := ⟨_, rfl⟩
      have hin : (k : Int) - 1 - (n : Int) = (i : Int) := by omega
      rw [hin] at g6
      have hik : i < k := by omega
      have hil : i < l.length := by omega
      have hni : ((n + 1 : Nat) : Int) = (k : Int) - (i : Int) := by omega
      have HI : Hid _ := hi
      have HN : Hid _ := hni
      clear hi hin hni
      by_cases hd : depR (l.getD i default) (l.getD k default) = true
      · repeat' (first
    | (with_reducible apply run_seq)
    | (with_reducible apply run_block)
    | (with_reducible apply run_skip)
    | ((with_reducible apply run_go); simp only [go_sem, *])
    | ((with_reducible apply run_drawGo Cl.zero Cl.zero_plain mixed); (focus kernel_rfl); simp only [go_sem, *])
    | ((with_reducible apply run_cond_t); (focus (simp only [go_sem, *]; done)))
    | ((with_reducible apply runD_callF known51); (focus rfl); (focus (simp only [go_sem, *]; exact depR_call W _ _ _)); (with_reducible first | apply runD_go Cl.zero_plain | apply runD_goC); simp only [go_sem, *]))
        have hos : ordI (ordU l k) l k (n + 1) = orM (ordI (ordU l k) l k n) ((ordU l k).getD i []) (i + 1) := by
          have hi := HI.out
          subst hi
          rw [ordI, if_pos hd]
        generalize ordI (ordU l k) l k n = R at *
        generalize hO : (ordU l k).getD i [] = O at *
        refine run_loop (fun m e2 H3 => ∃ j : Nat, j ≤ i + 1 ∧ m = i + 1 - j ∧ e2 0 = .list (evsC l) ∧ e2 3 = d ∧ e2 4 = .v (.int .i64 (k : Int)) ∧ e2 5 = .v (.slice (some ⟨b, 0, none⟩) l.length l.length) ∧ e2 6 = .v (.int .i64 (i : Int)) ∧ e2 7 = .v (.int .i64 (j : Int)) ∧
            H3 = H'.set b (.cells (bC (orM R O j)) 4)) (i + 1)
            ⟨0, Nat.zero_le _, rfl, (by simp only [go_sem, *]), (by simp only [go_sem, *]), (by simp only [go_sem, *]), (by simp only [go_sem, *]), (by simp only [go_sem, *]), by simp only [go_sem] <;> rfl, by rw [orM_zero]⟩ ?_
        rintro m e2 H3 ih ⟨j, hj, rfl, f0, f3, f4, f5, f6, f7, rfl⟩
        have IHj : Hid _ := ih
        clear ih g0 g3 g4 g5 g6 e'
        have hml := orM_length R O j
        by_cases hjl : j ≤ i
        · have hjr : j < l.length := by omega
          have hjr1 : j + 1 ≤ l.length := by omega
          have hw : IntKind.i64.wrap ((j : Int) + 1) = ((j + 1 : Nat) : Int) := by rw [wrap_nat (by omega) (by omega)]; rfl
          have hol : O.length = l.length := by
            rw [← hO]
            exact ordU_rows l k _ (by simp [List.getD, List.getElem?_eq_getElem (show i < (ordU l k).length by rw [ordU_length]; exact hik)])
          have hul := ordU_length l k
          have hput := bC_put (orM R O j) j ((orM R O j).getD j false || O.getD j false) (by omega)
          rw [orM_succ _ _ _ (by omega)] at hput
          cases hc with
          | none hn' => exfalso; rw [← rowsC_length, hn'] at hul; simp at hul; omega
          | some b2 cap hb2 =>
            repeat' (first
    | (with_reducible apply run_seq)
    | (with_reducible apply run_block)
    | (with_reducible apply run_inBlock)
    | (with_reducible apply run_skip)
    | ((with_reducible apply run_go); simp only [go_sem, *])
    | ((with_reducible apply run_cond_t); (focus (simp only [go_sem, *]; done)))
    | ((with_reducible apply runO_store); (focus (simp only [go_sem]; rfl)); (focus (simp only [go_sem, *]; rfl)); (focus (simp only [go_sem, *]; rfl)); (focus (simp only [go_sem, *]; done)); (focus (simp only [go_sem, *]; done)); (focus (simp only [go_sem, *]; done)); (with_reducible apply runO_go); simp only [go_sem, *, Heap.set_set]))
            refine IHj.out (i + 1 - (j + 1)) _ _ (by omega) ⟨j + 1, by omega, rfl, (by simp only [go_sem, *]), (by simp only [go_sem, *]), (by simp only [go_sem, *]), (by simp only [go_sem, *]), (by simp only [go_sem, *]), (by simp only [go_sem, *]), by simp only [go_sem, *]⟩
        · obtain rfl : j = i + 1 := by omega
          have hwi : IntKind.i64.wrap ((i : Int) - 1) = (i : Int) - 1 := by rw [IntKind.wrap_i64]; omega
          repeat' (first
    | (with_reducible apply run_seq)
    | (with_reducible apply run_inBlock)
    | (with_reducible apply run_exit rfl)
    | ((with_reducible apply run_go); simp only [go_sem, *])
    | ((with_reducible apply run_cond_f); (focus (simp only [go_sem, *]; done))))
          refine IHn.out (k - (n + 1)) _ _ (by omega) ⟨n + 1, by omega, rfl, (by simp only [go_sem, *]), (by simp only [go_sem, *]), (by simp only [go_sem, *]), (by simp only [go_sem, *]), ?_, by rw [hos]⟩
          have := HN.out
          simp only [go_sem]
          congr 2
          omega
      · have hd' : depR (l.getD i default) (l.getD k default) = false := by simpa using hd
        repeat' (first
    | (with_reducible apply run_seq)
    | (with_reducible apply run_block)
    | (with_reducible apply run_inBlock)
    | (with_reducible apply run_skip)
    | ((with_reducible apply run_go); simp only [go_sem, *])
    | ((with_reducible apply run_drawGo Cl.zero Cl.zero_plain mixed); (focus kernel_rfl); simp only [go_sem, *])
    | ((with_reducible apply run_cond_t); (focus (simp only [go_sem, *]; done)))
    | ((with_reducible apply run_cond_f); (focus (simp only [go_sem, *]; done)))
    | ((with_reducible apply runD_callF known51); (focus rfl); (focus (simp only [go_sem, *]; exact depR_call W _ _ _)); (with_reducible first | apply runD_go Cl.zero_plain | apply runD_goC); simp only [go_sem, *]))
        have hwi : IntKind.i64.wrap ((i : Int) - 1) = (i : Int) - 1 := by rw [IntKind.wrap_i64]; omega
        have hos : ordI (ordU l k) l k (n + 1) = ordI (ordU l k) l k n := by
          have hi := HI.out
          subst hi
          rw [ordI, if_neg hd]
        refine IHn.out (k - (n + 1)) _ _ (by omega) ⟨n + 1, by omega, rfl, (by simp only [go_sem, *]), (by simp only [go_sem, *]), (by simp only [go_sem, *]), (by simp only [go_sem, *]), ?_, by rw [hos]⟩
        have := HN.out
        simp only [go_sem, hwi]
        congr 2
        omega
    · obtain rfl : n = k := by omega
      refine Sn.run_freeze (j := 5) (xs := boolsC (ordI (ordU l n) l n n)) g5 (Heap.set_same _ _ _) (boolsC_flat _) (by rw [boolsC_length, hrl]) (Nat.le_refl _) (boolsC_all _) ?_
      rw [Heap.del_set hb]
      have hwn : ¬ (0 : Int) ≤ (n : Int) - 1 - (n : Int) := by omega
      have hw : IntKind.i64.wrap ((n : Int) + 1) = ((n + 1 : Nat) : Int) := by rw [wrap_nat (by omega) (by omega)]; rfl
      have hul := ordU_length l n
      repeat' (first
    | (with_reducible apply run_seq)
    | (with_reducible apply run_exit rfl)
    | ((with_reducible apply run_go); simp only [go_sem, *])
    | ((with_reducible apply run_cond_f); (focus (simp only [go_sem, *]; done)))
    | ((with_reducible apply runO_buildSlice); (focus (simp only [go_sem]; rfl)); (focus (simp only [go_sem]; rfl)); (focus (simp only [go_sem]; rfl)); (focus rfl); (focus rfl); (focus (simp only [go_sem, *]; done)); (focus (simp only [go_sem, *]; done)); (focus decide); (with_reducible apply runO_go); simp only [go_sem, *]))
      (refine runO_coll (t := 124) Try.underlying124 sz126 by126 zr126 rfl (by simp only [go_sem, *]; exact hc) (by simp only [go_sem, *]; rfl) (rowsC_all _) (by simp) (by (try simp only [List.length_range, List.length_map, List.length_take, List.length_cons, List.length_nil, List.length_append, go_sem]); omega) (by (try simp only [maxLen, List.length_range, List.length_map, List.length_take, List.length_cons, List.length_nil, List.length_append, go_sem]); omega) (fun d1 H1 hc1 => ?_); (with_reducible apply runO_go); simp only [go_sem, *])
      repeat' (first
    | (with_reducible apply run_inBlock)
    | ((with_reducible apply run_go); simp only [go_sem, *]))
      refine IH.out (l.length - (n + 1)) _ _ (by omega) ⟨n + 1, by omega, rfl, (by simp only [go_sem, *]), (by simp only [go_sem, *]), ?_⟩
      simp only [go_sem]
      simpa [ordU, rowsC] using hc1
  · have hfl := hc.flat
    have hsub := hc.sub
    repeat' (first
    | (with_reducible apply run_seq)
    | (with_reducible apply run_exit rfl)
    | ((with_reducible apply run_go); simp only [go_sem, *])
    | ((with_reducible apply run_cond_f); (focus (simp only [go_sem, *]; done)))
    | ((with_reducible apply run_ret Try.func81 res81 (H' := H)); (focus (simp only [go_sem, *]; rfl)); (focus trivial); (focus (repeat (first | assumption | exact Heap.sub_refl _ | refine Heap.sub_congr ?_ | refine Heap.sub_set ?_ (by assumption) | refine Heap.sub_set2 ?_ (by first | assumption | (simp only [*]; done) | (simp only [Heap.set_none', ne_eq, *, not_false_eq_true, and_self]; done)))))))
    obtain rfl : k = l.length := by omega
    exact ⟨rfl, rfl⟩
end Go.Proofs.Ytobdagjdhgjplaa
set_option linter.unusedSimpArgs false
set_option linter.unusedVariables false
namespace Go.Proofs.Ytobdagjdhgjplaa
open Go Go.Sn Go.RowKit

def ordB (l : List Ev) (k i : Nat) : Bool := ((ordU l l.length).getD k []).getD i false
/-- The counts of the first `m` of a row, by thread. -/
def cntR (l : List Ev) (r : List Bool) : Nat → List Int
  | 0 => [0, 0, 0, 0]
  | m + 1 => if r.getD m false then bump (l.getD m default).th (cntR l r m) else cntR l r m
/-- The document's clocks. -/
def clkR (l : List Ev) : Nat → List (List Int)
  | 0 => []
  | k + 1 => clkR l k ++ [cntR l ((ordU l l.length).getD k []) (k + 1)]
theorem clkR_length (l : List Ev) : ∀ k, (clkR l k).length = k
  | 0 => rfl
  | k + 1 => by simp [clkR, clkR_length l k]
theorem okC_cntR (l : List Ev) (r : List Bool) : ∀ m, OkC m (cntR l r m)
  | 0 => OkC.zero 0
  | m + 1 => by
    unfold cntR
    split
    · exact (okC_cntR l r m).bump
    · exact (okC_cntR l r m).mono (by omega)
theorem clkR_all (l : List Ev) : ∀ k, ∀ c ∈ clkR l k, OkC k c
  | 0, c, h => by simp [clkR] at h
  | k + 1, c, h => by
    rcases List.mem_append.1 h with h | h
    · exact (clkR_all l k c h).mono (by omega)
    · rw [List.mem_singleton.1 h]; exact okC_cntR _ _ _
theorem clkRC_all {l : List Ev} (k : Nat) : ∀ ds ∈ clksC (clkR l k), ds.length = 4 := by
  intro ds h
  simp only [clksC, List.mem_map] at h
  obtain ⟨c, hc, rfl⟩ := h
  rw [iC_length]
  exact (clkR_all l k c hc).1
end Go.Proofs.Ytobdagjdhgjplaa
set_option linter.unusedSimpArgs false
set_option linter.unusedVariables false
namespace Go.Proofs.Ytobdagjdhgjplaa
open Go Go.Sn

/-- The clock of the `i`-th, at thread `t`. -/
def ck (l : List Ev) (i t : Nat) : Int := ((clkU l l.length).getD i []).getD t 0
/-- How many of the first `i` are of thread `t`. -/
def cn (l : List Ev) (i t : Nat) : Nat := cntT (t : Int) (l.take i)
def thN (l : List Ev) (i : Nat) : Nat := (l.getD i default).th.toNat
abbrev AllR (l : List Ev) : Prop := l.all rightR = true

theorem thN_lt {l : List Ev} (h : AllR l) {i : Nat} (hi : i < l.length) : thN l i < 4 ∧ ((thN l i : Nat) : Int) = (l.getD i default).th := by
  have := right_bounds (rightR_getD h hi)
  unfold thN
  omega

theorem cn_succ {l : List Ev} (h : AllR l) {i : Nat} (hi : i < l.length) (t : Nat) : cn l (i + 1) t = cn l i t + if thN l i = t then 1 else 0 := by
  unfold cn
  rw [cntT_succ _ hi]
  congr 1
  have := (thN_lt h hi).2
  by_cases e : thN l i = t
  · rw [if_pos e, if_pos (by omega)]
  · rw [if_neg e, if_neg (by omega)]
theorem cn_zero (l : List Ev) (t : Nat) : cn l 0 t = 0 := by simp [cn, cntT]
theorem cn_mono {l : List Ev} (h : AllR l) (t : Nat) {i k : Nat} (hik : i ≤ k) (hk : k ≤ l.length) : cn l i t ≤ cn l k t := by
  induction k with
  | zero => obtain rfl : i = 0 := by omega
            exact Nat.le_refl _
  | succ k ih =>
    rcases Nat.lt_or_ge i (k + 1) with hlt | hge
    · have := ih (by omega) (by omega)
      rw [cn_succ h (by omega)]
      omega
    · obtain rfl : i = k + 1 := by omega
      exact Nat.le_refl _
/-- The last one of a thread ahead of a place. -/
theorem cn_last {l : List Ev} (h : AllR l) (t : Nat) : ∀ {i : Nat}, i ≤ l.length → 0 < cn l i t → ∃ j, j < i ∧ thN l j = t ∧ cn l (j + 1) t = cn l i t
  | 0, _, hp => by rw [cn_zero] at hp; omega
  | i + 1, hi, hp => by
    by_cases e : thN l i = t
    · exact ⟨i, by omega, e, rfl⟩
    · rw [cn_succ h (by omega), if_neg e] at hp ⊢
      obtain ⟨j, h1, h2, h3⟩ := cn_last h t (i := i) (by omega) hp
      exact ⟨j, by omega, h2, h3⟩
theorem le_of_cn {l : List Ev} (h : AllR l) {j i t : Nat} (hj : j < l.length) (hi : i < l.length) (ht : thN l j = t) (hc : cn l (j + 1) t ≤ cn l (i + 1) t) : j ≤ i := by
  rcases Nat.lt_or_ge i j with hlt | hge
  · have h1 := cn_mono h t (i := i + 1) (k := j) (by omega) (by omega)
    rw [cn_succ h hj, if_pos ht] at hc
    omega
  · exact hge
theorem cn_pos {l : List Ev} (h : AllR l) {j : Nat} (hj : j < l.length) : 0 < cn l (j + 1) (thN l j) := by rw [cn_succ h hj, if_pos rfl]; omega
/-- Each number of a thread is an event's. -/
theorem cn_ex {l : List Ev} (h : AllR l) (t n : Nat) (hn : 0 < n) : ∀ {i : Nat}, i ≤ l.length → n ≤ cn l i t → ∃ j, j < i ∧ thN l j = t ∧ cn l (j + 1) t = n
  | 0, _, hp => by rw [cn_zero] at hp; omega
  | i + 1, hi, hp => by
    by_cases e : n ≤ cn l i t
    · obtain ⟨j, h1, h2, h3⟩ := cn_ex h t n hn (i := i) (by omega) e
      exact ⟨j, by omega, h2, h3⟩
    · have hs := cn_succ h (i := i) (by omega) t
      by_cases e1 : thN l i = t
      · rw [if_pos e1] at hs
        exact ⟨i, by omega, e1, by omega⟩
      · rw [if_neg e1] at hs
        omega
theorem cn_inj {l : List Ev} (h : AllR l) {i j : Nat} (hi : i < l.length) (hj : j < l.length) (ht : thN l i = thN l j) (hc : cn l (i + 1) (thN l i) = cn l (j + 1) (thN l j)) : i = j := by
  rw [← ht] at hc
  have h1 := le_of_cn h hi hj rfl (Nat.le_of_eq hc)
  have h2 := le_of_cn h hj hi ht.symm (by omega)
  omega

/-! ### what a clock is made of -/

theorem joinI_getD {c d : List Int} (h : c.length = d.length) (t : Nat) : (joinI c d).getD t 0 = max (c.getD t 0) (d.getD t 0) := by
  unfold joinI
  simp only [List.getD_eq_getElem?_getD, List.getElem?_zipWith]
  by_cases ht : t < c.length
  · simp [List.getElem?_eq_getElem ht, List.getElem?_eq_getElem (show t < d.length by omega)]
  · simp [List.getElem?_eq_none (Nat.not_lt.1 ht), List.getElem?_eq_none (show d.length ≤ t by omega)]

theorem clkU_get (l : List Ev) {k : Nat} : ∀ {m : Nat}, k < m → (clkU l m).getD k [] = bump (l.getD k default).th (jf (clkU l k) l (l.getD k default) k)
  | 0, h => by omega
  | m + 1, h => by
    rw [show clkU l (m + 1) = clkU l m ++ [bump (l.getD m default).th (jf (clkU l m) l (l.getD m default) m)] from rfl]
    rcases Nat.lt_or_ge k m with hlt | hge
    · rw [List.getD_eq_getElem?_getD, List.getElem?_append_left (by rw [clkU_length]; exact hlt), ← List.getD_eq_getElem?_getD]
      exact clkU_get l hlt
    · obtain rfl : k = m := by omega
      rw [List.getD_eq_getElem?_getD, List.getElem?_append_right (by rw [clkU_length]; exact Nat.le_refl _), clkU_length]
      simp
theorem clkU_get' (l : List Ev) {k m m' : Nat} (h : k < m) (h' : k < m') : (clkU l m).getD k [] = (clkU l m').getD k [] := by rw [clkU_get l h, clkU_get l h']

theorem jf_le (l : List Ev) (e : Ev) {k : Nat} (hk : k ≤ l.length) (t : Nat) (n : Int) : ∀ {i : Nat}, i ≤ k →
    (n ≤ (jf (clkU l k) l e i).getD t 0 ↔ n ≤ 0 ∨ ∃ j, j < i ∧ depE (l.getD j default) e = true ∧ n ≤ ck l j t)
  | 0, _ => by
    have : (jf (clkU l k) l e 0).getD t 0 = 0 := by
      unfold jf
      match t with
      | 0 => rfl
      | 1 => rfl
      | 2 => rfl
      | 3 => rfl
      | t + 4 => rfl
    rw [this]
    constructor
    · exact fun h => .inl h
    · rintro (h | ⟨j, h, _⟩)
      · exact h
      · omega
  | i + 1, hi => by
    have ih := jf_le l e hk t n (i := i) (by omega)
    have h4 : (jf (clkU l k) l e i).length = 4 := (OkC.jf (okC_clkU l k) i (by rw [clkU_length]; omega)).1
    have hc4 : ((clkU l k).getD i []).length = 4 := (okC_getD (by omega)).1
    have hck : ((clkU l k).getD i []).getD t 0 = ck l i t := by unfold ck; rw [clkU_get' l (m := k) (m' := l.length) (by omega) (by omega)]
    unfold jf
    split
    · rename_i hd
      rw [joinI_getD (by omega), hck]
      constructor
      · intro h
        rcases Int.le_total ((jf (clkU l k) l e i).getD t 0) (ck l i t) with h1 | h1
        · exact .inr ⟨i, by omega, hd, by omega⟩
        · rcases ih.1 (by omega) with h2 | ⟨j, h2, h3⟩
          · exact .inl h2
          · exact .inr ⟨j, by omega, h3⟩
      · rintro (h | ⟨j, h2, h3, h5⟩)
        · have := ih.2 (.inl h); omega
        · rcases Nat.lt_or_ge j i with h6 | h6
          · have := ih.2 (.inr ⟨j, h6, h3, h5⟩); omega
          · obtain rfl : j = i := by omega
            omega
    · rename_i hd
      rw [ih]
      constructor
      · rintro (h | ⟨j, h2, h3⟩)
        · exact .inl h
        · exact .inr ⟨j, by omega, h3⟩
      · rintro (h | ⟨j, h2, h3, h5⟩)
        · exact .inl h
        · rcases Nat.lt_or_ge j i with h6 | h6
          · exact .inr ⟨j, h6, h3, h5⟩
          · obtain rfl : j = i := by omega
            exact absurd h3 hd

/-- What is known ahead of the `i`-th. -/
def jx (l : List Ev) (i t : Nat) : Int := (jf (clkU l i) l (l.getD i default) i).getD t 0
theorem jx_le (l : List Ev) {i : Nat} (hi : i < l.length) (t : Nat) (n : Int) : n ≤ jx l i t ↔ n ≤ 0 ∨ ∃ j, j < i ∧ depE (l.getD j default) (l.getD i default) = true ∧ n ≤ ck l j t :=
  jf_le l _ (by omega) t n (Nat.le_refl _)
theorem bump_getD {c : List Int} {t : Int} (h : t.toNat < c.length) (j : Nat) : (bump t c).getD j 0 = c.getD j 0 + if t.toNat = j then 1 else 0 := by
  unfold bump
  simp only [List.getD_eq_getElem?_getD, List.getElem?_set]
  split
  · rename_i e
    subst e
    simp [h]
  · simp
theorem ck_eq {l : List Ev} (h : AllR l) {i : Nat} (hi : i < l.length) (t : Nat) : ck l i t = jx l i t + if thN l i = t then 1 else 0 := by
  unfold ck jx
  rw [clkU_get l hi, bump_getD]
  · rfl
  · rw [(OkC.jf (okC_clkU l i) i (by rw [clkU_length]; omega)).1]
    exact (thN_lt h hi).1
theorem ck_nonneg (l : List Ev) {i : Nat} (hi : i < l.length) (t : Nat) : 0 ≤ ck l i t := by
  unfold ck
  have h := okC_getD (l := l) hi
  by_cases ht : t < ((clkU l l.length).getD i []).length
  · have := h.2 (((clkU l l.length).getD i [])[t]) (List.getElem_mem _)
    rw [List.getD_eq_getElem?_getD, List.getElem?_eq_getElem ht]
    exact this.1
  · rw [List.getD_eq_getElem?_getD, List.getElem?_eq_none (Nat.not_lt.1 ht)]
    exact Int.le_refl _
theorem depE_same {a b : Ev} (h : a.th = b.th) : depE a b = true := by simp [depE, h]
theorem dep_th {l : List Ev} (h : AllR l) {i j : Nat} (hi : i < l.length) (hj : j < l.length) (ht : thN l j = thN l i) : depE (l.getD j default) (l.getD i default) = true :=
  depE_same (by rw [← (thN_lt h hi).2, ← (thN_lt h hj).2, ht])

theorem ck_le {l : List Ev} (h : AllR l) : ∀ (i : Nat), i < l.length → ∀ t, ck l i t ≤ (cn l (i + 1) t : Int) := by
  intro i
  induction i using Nat.strongRecOn with
  | _ i ih =>
    intro hi t
    have hj : jx l i t ≤ (cn l i t : Int) := by
      rcases (jx_le l hi t (jx l i t)).1 (Int.le_refl _) with h1 | ⟨j, h1, h2, h3⟩
      · omega
      · have h4 := ih j h1 (by omega) t
        have h5 := cn_mono h t (i := j + 1) (k := i) (by omega) (by omega)
        omega
    rw [ck_eq h hi, cn_succ h hi]
    split <;> omega
theorem jx_cn {l : List Ev} (h : AllR l) {i : Nat} (hi : i < l.length) (t : Nat) : jx l i t ≤ (cn l i t : Int) := by
  rcases (jx_le l hi t (jx l i t)).1 (Int.le_refl _) with h1 | ⟨j, h1, h2, h3⟩
  · omega
  · have h4 := ck_le h j (by omega) t
    have h5 := cn_mono h t (i := j + 1) (k := i) (by omega) (by omega)
    omega
/-- Its own number. -/
theorem ck_own {l : List Ev} (h : AllR l) : ∀ (i : Nat), i < l.length → ck l i (thN l i) = (cn l (i + 1) (thN l i) : Int) := by
  intro i
  induction i using Nat.strongRecOn with
  | _ i ih =>
    intro hi
    have h1 := jx_cn h hi (thN l i)
    have h2 : (cn l i (thN l i) : Int) ≤ jx l i (thN l i) := by
      rw [jx_le l hi]
      by_cases hp : 0 < cn l i (thN l i)
      · obtain ⟨j, h3, h4, h5⟩ := cn_last h (thN l i) (i := i) (by omega) hp
        refine .inr ⟨j, h3, dep_th h hi (by omega) h4, ?_⟩
        have := ih j h3 (by omega)
        rw [h4, h5] at this
        omega
      · exact .inl (by omega)
    rw [ck_eq h hi, cn_succ h hi, if_pos rfl, if_pos rfl]
    omega
/-- What it depends on, it knows. -/
theorem ck_dep {l : List Ev} (h : AllR l) {i j : Nat} (hi : i < l.length) (hj : j < i) (hd : depE (l.getD j default) (l.getD i default) = true) (t : Nat) : ck l j t ≤ ck l i t := by
  have := (jx_le l hi t (ck l j t)).2 (.inr ⟨j, hj, hd, Int.le_refl _⟩)
  rw [ck_eq h hi]
  split <;> omega

/-- Known is what it is, or what one is known by that it depends on. -/
theorem known_iff {l : List Ev} (h : AllR l) {i j : Nat} (hi : i < l.length) (hj : j < i) :
    (cn l (j + 1) (thN l j) : Int) ≤ ck l i (thN l j) ↔ ∃ k, k < i ∧ depE (l.getD k default) (l.getD i default) = true ∧ j ≤ k ∧ (cn l (j + 1) (thN l j) : Int) ≤ ck l k (thN l j) := by
  have hjl : j < l.length := by omega
  constructor
  · intro hk
    by_cases ht : thN l j = thN l i
    · exact ⟨j, hj, dep_th h hi hjl ht, Nat.le_refl _, by rw [ck_own h j hjl]; exact Int.le_refl _⟩
    · rw [ck_eq h hi, if_neg (fun e => ht e.symm)] at hk
      have hp := cn_pos h hjl
      rcases (jx_le l hi _ _).1 (show ((cn l (j + 1) (thN l j) : Nat) : Int) ≤ jx l i (thN l j) by omega) with h1 | ⟨k, h1, h2, h3⟩
      · omega
      · refine ⟨k, h1, h2, ?_, h3⟩
        have := ck_le h k (by omega) (thN l j)
        exact le_of_cn h hjl (by omega) rfl (by omega)
  · rintro ⟨k, h1, h2, h3, h4⟩
    have := ck_dep h hi h1 h2 (thN l j)
    omega

/-- What is known by one that is known, is known. -/
theorem ck_down {l : List Ev} (h : AllR l) : ∀ (k : Nat), k < l.length → ∀ j, j ≤ k → (cn l (j + 1) (thN l j) : Int) ≤ ck l k (thN l j) → ∀ t, ck l j t ≤ ck l k t := by
  intro k
  induction k using Nat.strongRecOn with
  | _ k ih =>
    intro hk j hj hn t
    rcases Nat.lt_or_ge j k with hlt | hge
    · obtain ⟨i, h1, h2, h3, h4⟩ := (known_iff h hk hlt).1 hn
      have := ih i h1 (by omega) j h3 h4 t
      have := ck_dep h hk h1 h2 t
      omega
    · obtain rfl : j = k := by omega
      exact Int.le_refl _

/-! ### the document's order -/

/-- The `i`-th happens before the `k`-th. -/
def hbf (l : List Ev) (i k : Nat) : Bool := decide (i ≤ k) && decide ((cn l (i + 1) (thN l i) : Int) ≤ ck l k (thN l i))

theorem ordU_get (l : List Ev) {k : Nat} : ∀ {m : Nat}, k < m → (ordU l m).getD k [] = ordI (ordU l k) l k k
  | 0, h => by omega
  | m + 1, h => by
    rw [show ordU l (m + 1) = ordU l m ++ [ordI (ordU l m) l m m] from rfl]
    rcases Nat.lt_or_ge k m with hlt | hge
    · rw [List.getD_eq_getElem?_getD, List.getElem?_append_left (by rw [ordU_length]; exact hlt), ← List.getD_eq_getElem?_getD]
      exact ordU_get l hlt
    · obtain rfl : k = m := by omega
      rw [List.getD_eq_getElem?_getD, List.getElem?_append_right (by rw [ordU_length]; exact Nat.le_refl _), ordU_length]
      simp

theorem ordI_get (l : List Ev) {k : Nat} (hk : k < l.length) (out : List (List Bool)) {j : Nat} (hj : j < l.length) : ∀ {n : Nat}, n ≤ k →
    ((ordI out l k n).getD j false = true ↔ j = k ∨ ∃ i, k - n ≤ i ∧ i < k ∧ depE (l.getD i default) (l.getD k default) = true ∧ j ≤ i ∧ (out.getD i []).getD j false = true)
  | 0, _ => by
    unfold ordI
    simp only [List.getD_eq_getElem?_getD, List.getElem?_set, List.length_replicate]
    by_cases e : k = j
    · subst e; simp [hj]
    · simp only [e, if_false, List.getElem?_replicate, hj, if_true, Option.getD_some]
      constructor
      · intro h; cases h
      · rintro (h | ⟨i, h1, h2, _⟩)
        · exact absurd h.symm e
        · omega
  | n + 1, hn => by
    have ih := ordI_get l hk out hj (n := n) (by omega)
    unfold ordI
    rw [← dep_eq]
    split
    · rename_i hd
      rw [orM_getD _ _ _ _ (by rw [ordI_length]; exact hj), Bool.or_eq_true, ih, Bool.and_eq_true, decide_eq_true_eq]
      constructor
      · rintro ((h | ⟨i, h1, h2, h3⟩) | ⟨h1, h2⟩)
        · exact .inl h
        · exact .inr ⟨i, by omega, h2, h3⟩
        · exact .inr ⟨k - 1 - n, by omega, by omega, hd, by omega, h2⟩
      · rintro (h | ⟨i, h1, h2, h3, h4, h5⟩)
        · exact .inl (.inl h)
        · by_cases e : i = k - 1 - n
          · subst e
            exact .inr ⟨by omega, h5⟩
          · exact .inl (.inr ⟨i, by omega, h2, h3, h4, h5⟩)
    · rename_i hd
      rw [ih]
      constructor
      · rintro (h | ⟨i, h1, h2, h3⟩)
        · exact .inl h
        · exact .inr ⟨i, by omega, h2, h3⟩
      · rintro (h | ⟨i, h1, h2, h3, h4, h5⟩)
        · exact .inl h
        · by_cases e : i = k - 1 - n
          · subst e
            exact absurd h3 hd
          · exact .inr ⟨i, by omega, h2, h3, h4, h5⟩

/-- The document's order is what the clocks tell. -/
theorem ord_hb {l : List Ev} (h : AllR l) : ∀ (k : Nat), k < l.length → ∀ j, j < l.length → ordB l k j = hbf l j k := by
  intro k
  induction k using Nat.strongRecOn with
  | _ k ih =>
    intro hk j hj
    rw [Bool.eq_iff_iff]
    unfold ordB
    rw [ordU_get l hk, ordI_get l hk _ hj (Nat.le_refl _)]
    have hb1 : hbf l j k = true ↔ j ≤ k ∧ (cn l (j + 1) (thN l j) : Int) ≤ ck l k (thN l j) := by simp [hbf]
    rw [hb1]
    have hrow : ∀ i, i < k → (ordU l k).getD i [] = (ordU l l.length).getD i [] := fun i hi => by rw [ordU_get l hi, ordU_get l (show i < l.length by omega)]
    constructor
    · rintro (rfl | ⟨i, h1, h2, h3, h4, h5⟩)
      · exact ⟨Nat.le_refl _, by rw [ck_own h j hk]; exact Int.le_refl _⟩
      · rw [hrow i h2] at h5
        have h6 : ordB l i j = true := h5
        rw [ih i h2 (by omega) j hj] at h6
        have h7 : j ≤ i ∧ (cn l (j + 1) (thN l j) : Int) ≤ ck l i (thN l j) := by simpa [hbf] using h6
        have := ck_dep h hk h2 h3 (thN l j)
        exact ⟨by omega, by omega⟩
    · rintro ⟨h1, h2⟩
      rcases Nat.lt_or_ge j k with hlt | hge
      · obtain ⟨i, h3, h4, h5, h6⟩ := (known_iff h hk hlt).1 h2
        refine .inr ⟨i, by omega, h3, h4, h5, ?_⟩
        rw [hrow i h3]
        show ordB l i j = true
        rw [ih i h3 (by omega) j hj]
        simp [hbf, h5, h6]
      · exact .inl (by omega)
theorem numN_eq {l : List Ev} (h : AllR l) {i : Nat} (hi : i < l.length) : numN l (i : Int) = (cn l (i + 1) (thN l i) : Int) := by
  unfold numN
  rw [if_neg (by simp only [Bool.or_eq_true, decide_eq_true_eq, Bool.not_eq_true', h]; simp; omega)]
  simp only [Int.toNat_natCast, cn]
  rw [(thN_lt h hi).2]

theorem before_hb {l : List Ev} (h : AllR l) {i k : Nat} (hi : i < l.length) (hk : k < l.length) : beforeN l (i : Int) (k : Int) = hbf l i k := by
  unfold beforeN
  rw [if_neg (by simp only [Bool.or_eq_true, decide_eq_true_eq, Bool.not_eq_true', h, imin_eq, imax_eq]; simp; omega)]
  rw [numN_eq h hi]
  rw [Bool.eq_iff_iff]
  simp only [Int.toNat_natCast, hbf, ck, thN, Int.ofNat_le, Bool.and_eq_true, decide_eq_true_eq]
  constructor <;> exact fun ⟨a, b⟩ => ⟨a, decide_eq_true (of_decide_eq_true b)⟩
end Go.Proofs.Ytobdagjdhgjplaa
set_option linter.unusedSimpArgs false
set_option linter.unusedVariables false
namespace Go.Proofs.Ytobdagjdhgjplaa
open Go Go.Sn

theorem ext_getD {c d : List Int} (h : c.length = d.length) (he : ∀ t, c.getD t 0 = d.getD t 0) : c = d := by
  apply List.ext_getElem h
  intro i h1 h2
  have := he i
  simpa [List.getD_eq_getElem?_getD, List.getElem?_eq_getElem h1, List.getElem?_eq_getElem h2] using this

theorem cntR_get {l : List Ev} (h : AllR l) {k : Nat} (hk : k < l.length) (t : Nat) : ∀ {m : Nat}, m ≤ k + 1 →
    (cntR l ((ordU l l.length).getD k []) m).getD t 0 = min (ck l k t) (cn l m t : Int)
  | 0, _ => by
    have := ck_nonneg l hk t
    have h0 : (cntR l ((ordU l l.length).getD k []) 0).getD t 0 = 0 := by
      unfold cntR
      match t with
      | 0 => rfl
      | 1 => rfl
      | 2 => rfl
      | 3 => rfl
      | t + 4 => rfl
    rw [h0, cn_zero]
    omega
  | m + 1, hm => by
    have ih := cntR_get h hk t (m := m) (by omega)
    have hr : ((ordU l l.length).getD k []).getD m false = hbf l m k := ord_hb h k hk m (by omega)
    have hs := cn_succ h (i := m) (by omega) t
    have h4 := (okC_cntR l ((ordU l l.length).getD k []) m).1
    have ht4 := (thN_lt h (i := m) (by omega)).1
    unfold cntR
    rw [hr]
    by_cases hh : hbf l m k = true
    · rw [if_pos hh, bump_getD (by rw [h4]; exact ht4), ih]
      have hh' : m ≤ k ∧ (cn l (m + 1) (thN l m) : Int) ≤ ck l k (thN l m) := by simpa [hbf] using hh
      change min (ck l k t) (cn l m t : Int) + (if thN l m = t then 1 else 0) = _
      split
      · rename_i e
        rw [if_pos e] at hs
        have h2 := hh'.2
        rw [e] at h2
        omega
      · rename_i e
        rw [if_neg e] at hs
        omega
    · rw [if_neg hh, ih]
      by_cases e : thN l m = t
      · rw [if_pos e] at hs
        have h2 : ¬ ((cn l (m + 1) (thN l m) : Int) ≤ ck l k (thN l m)) := by
          intro h3
          exact hh (by simp [hbf, h3]; omega)
        rw [e] at h2
        omega
      · rw [if_neg e] at hs
        omega
theorem clkR_get (l : List Ev) {k : Nat} : ∀ {m : Nat}, k < m → (clkR l m).getD k [] = cntR l ((ordU l l.length).getD k []) (k + 1)
  | 0, h => by omega
  | m + 1, h => by
    rw [show clkR l (m + 1) = clkR l m ++ [cntR l ((ordU l l.length).getD m []) (m + 1)] from rfl]
    rcases Nat.lt_or_ge k m with hlt | hge
    · rw [List.getD_eq_getElem?_getD, List.getElem?_append_left (by rw [clkR_length]; exact hlt), ← List.getD_eq_getElem?_getD]
      exact clkR_get l hlt
    · obtain rfl : k = m := by omega
      rw [List.getD_eq_getElem?_getD, List.getElem?_append_right (by rw [clkR_length]; exact Nat.le_refl _), clkR_length]
      simp
/-- The document's clocks are the program's. -/
theorem clkR_eq {l : List Ev} (h : AllR l) : clkR l l.length = clkU l l.length := by
  apply List.ext_getElem (by rw [clkR_length, clkU_length])
  intro k h1 h2
  rw [clkU_length] at h2
  have e1 : (clkR l l.length)[k] = (clkR l l.length).getD k [] := by simp [List.getD_eq_getElem?_getD, List.getElem?_eq_getElem h1]
  have e2 : (clkU l l.length)[k]'(by rw [clkU_length]; exact h2) = (clkU l l.length).getD k [] := by simp [List.getD_eq_getElem?_getD, clkU_length, h2]
  rw [e1, e2, clkR_get l h2]
  apply ext_getD
  · rw [(okC_cntR _ _ _).1, (okC_getD h2).1]
  · intro t
    rw [cntR_get h h2 t (Nat.le_refl _)]
    show _ = ck l k t
    have := ck_le h k h2 t
    omega

/-! ### rows that are the same -/

/-- The clock of the `i`-th. -/
def clkAt (l : List Ev) (i : Nat) : List Int := (clkU l l.length).getD i []
theorem clkAt_getD (l : List Ev) (i t : Nat) : (clkAt l i).getD t 0 = ck l i t := rfl
theorem clkAt_length {l : List Ev} {i : Nat} (h : i < l.length) : (clkAt l i).length = 4 := (okC_getD h).1

/-- An event and its clock, of a row. -/
def At (l : List Ev) (x : Ev × List Int) : Prop := ∃ i, i < l.length ∧ (l.getD i default, clkAt l i) = x
/-- Its thread and number. -/
def ptx (x : Ev × List Int) : Int × Int := (x.1.th, x.2.getD x.1.th.toNat 0)
def pt (l : List Ev) (i : Nat) : Int × Int := ptx (l.getD i default, clkAt l i)

theorem pt_eq {l : List Ev} (h : AllR l) {i : Nat} (hi : i < l.length) : pt l i = ((thN l i : Int), (cn l (i + 1) (thN l i) : Int)) := by
  unfold pt ptx
  rw [(thN_lt h hi).2]
  congr 1
  exact ck_own h i hi
theorem pt_inj {l : List Ev} (h : AllR l) {i j : Nat} (hi : i < l.length) (hj : j < l.length) (e : pt l i = pt l j) : i = j := by
  rw [pt_eq h hi, pt_eq h hj] at e
  injection e with e1 e2
  have e1' : thN l i = thN l j := by omega
  refine cn_inj h hi hj e1' ?_
  rw [← e1'] at e2
  rw [← e1']
  omega
theorem At.uniq {l : List Ev} (h : AllR l) {x y : Ev × List Int} (hx : At l x) (hy : At l y) (e : ptx x = ptx y) : x = y := by
  obtain ⟨i, hi, rfl⟩ := hx
  obtain ⟨j, hj, rfl⟩ := hy
  obtain rfl := pt_inj h hi hj e
  rfl

def Iso (a b : List Ev) : Prop := ∀ x, At a x ↔ At b x
theorem Iso.refl (a : List Ev) : Iso a a := fun _ => Iff.rfl
theorem Iso.symm {a b : List Ev} (h : Iso a b) : Iso b a := fun x => (h x).symm
theorem Iso.trans {a b c : List Ev} (h : Iso a b) (k : Iso b c) : Iso a c := fun x => (h x).trans (k x)

theorem len_cn {l : List Ev} (h : AllR l) : ∀ {i : Nat}, i ≤ l.length → cn l i 0 + cn l i 1 + cn l i 2 + cn l i 3 = i
  | 0, _ => by simp [cn_zero]
  | i + 1, hi => by
    have ih := len_cn h (i := i) (by omega)
    have h0 := cn_succ h (i := i) (by omega) 0
    have h1 := cn_succ h (i := i) (by omega) 1
    have h2 := cn_succ h (i := i) (by omega) 2
    have h3 := cn_succ h (i := i) (by omega) 3
    have h4 := (thN_lt h (i := i) (by omega)).1
    have : thN l i = 0 ∨ thN l i = 1 ∨ thN l i = 2 ∨ thN l i = 3 := by omega
    rcases this with e | e | e | e <;> simp only [e] at h0 h1 h2 h3 <;> simp at h0 h1 h2 h3 <;> omega

theorem sub_cn {a b : List Ev} (ha : AllR a) (hb : AllR b) (hs : ∀ x, At a x → At b x) (t : Nat) : cn a a.length t ≤ cn b b.length t := by
  by_cases hp : 0 < cn a a.length t
  · obtain ⟨i, h1, h2, h3⟩ := cn_last ha t (Nat.le_refl _) hp
    obtain ⟨j, h4, h5⟩ := hs _ ⟨i, h1, rfl⟩
    have h6 : pt b j = pt a i := by unfold pt; rw [h5]
    rw [pt_eq ha h1, pt_eq hb h4] at h6
    injection h6 with h7 h8
    have h7' : thN b j = t := by omega
    rw [h7', h2, h3] at h8
    have := cn_mono hb t (i := j + 1) (k := b.length) (by omega) (Nat.le_refl _)
    omega
  · omega

theorem iso_of {a b : List Ev} (ha : AllR a) (hb : AllR b) (hl : a.length = b.length) (hs : ∀ x, At a x → At b x) : Iso a b := by
  have hN : ∀ t, cn a a.length t ≤ cn b b.length t := sub_cn ha hb hs
  have la := len_cn ha (Nat.le_refl a.length)
  have lb := len_cn hb (Nat.le_refl b.length)
  have hE : ∀ t, t < 4 → cn a a.length t = cn b b.length t := by
    intro t ht
    have h0 := hN 0
    have h1 := hN 1
    have h2 := hN 2
    have h3 := hN 3
    have : t = 0 ∨ t = 1 ∨ t = 2 ∨ t = 3 := by omega
    rcases this with rfl | rfl | rfl | rfl <;> omega
  refine fun x => ⟨hs x, ?_⟩
  rintro ⟨j, hj, rfl⟩
  have ht := (thN_lt hb hj).1
  have h1 := cn_mono hb (thN b j) (i := j + 1) (k := b.length) (by omega) (Nat.le_refl _)
  obtain ⟨i, h2, h3, h4⟩ := cn_ex ha (thN b j) _ (cn_pos hb hj) (Nat.le_refl a.length) (by rw [hE _ ht]; exact h1)
  have h5 : At b (a.getD i default, clkAt a i) := hs _ ⟨i, h2, rfl⟩
  have h6 : (a.getD i default, clkAt a i) = (b.getD j default, clkAt b j) := by
    refine h5.uniq hb ⟨j, hj, rfl⟩ ?_
    show pt a i = pt b j
    rw [pt_eq ha h2, pt_eq hb hj, h3, h4]
  exact ⟨i, h2, h6⟩
theorem Iso.cnt {a b : List Ev} (h : Iso a b) (ha : AllR a) (hb : AllR b) (t : Nat) : cn a a.length t = cn b b.length t :=
  Nat.le_antisymm (sub_cn ha hb (fun x hx => (h x).1 hx) t) (sub_cn hb ha (fun x hx => (h x).2 hx) t)
theorem Iso.len {a b : List Ev} (h : Iso a b) (ha : AllR a) (hb : AllR b) : a.length = b.length := by
  have la := len_cn ha (Nat.le_refl a.length)
  have lb := len_cn hb (Nat.le_refl b.length)
  have h0 := h.cnt ha hb 0
  have h1 := h.cnt ha hb 1
  have h2 := h.cnt ha hb 2
  have h3 := h.cnt ha hb 3
  omega

/-! ### one event more -/

theorem jf_congr {l m : List Ev} {cs ds : List (List Int)} (e : Ev) : ∀ {i : Nat}, (∀ j, j < i → l.getD j default = m.getD j default ∧ cs.getD j [] = ds.getD j []) → jf cs l e i = jf ds m e i
  | 0, _ => rfl
  | i + 1, h => by
    unfold jf
    rw [jf_congr e (i := i) fun j hj => h j (by omega), (h i (by omega)).1, (h i (by omega)).2]
theorem clkU_congr {l m : List Ev} : ∀ {k : Nat}, (∀ j, j < k → l.getD j default = m.getD j default) → clkU l k = clkU m k
  | 0, _ => rfl
  | k + 1, h => by
    have ih := clkU_congr (k := k) fun j hj => h j (by omega)
    unfold clkU
    rw [ih, h k (by omega), jf_congr (l := l) (m := m) _ fun j hj => ⟨h j (by omega), rfl⟩]

/-- The clock of one event more. -/
def newC (l : List Ev) (e : Ev) : List Int := bump e.th (jf (clkU l l.length) l e l.length)
theorem getD_app (l : List Ev) (v : List Ev) {j : Nat} (h : j < l.length) : (l ++ v).getD j default = l.getD j default := by
  simp [List.getD_eq_getElem?_getD, List.getElem?_append_left h]
theorem clkAt_app (l v : List Ev) {j : Nat} (h : j < l.length) : clkAt (l ++ v) j = clkAt l j := by
  unfold clkAt
  rw [clkU_get _ (show j < (l ++ v).length by simp; omega), clkU_get _ h, getD_app _ _ h,
    clkU_congr (l := l ++ v) (m := l) (k := j) (fun i hi => getD_app _ _ (by omega)), jf_congr (l := l ++ v) (m := l) _ fun i hi => ⟨getD_app _ _ (by omega), rfl⟩]
theorem clkAt_new (l : List Ev) (e : Ev) : clkAt (l ++ [e]) l.length = newC l e := by
  unfold clkAt newC
  rw [clkU_get _ (show l.length < (l ++ [e]).length by simp)]
  have he : (l ++ [e]).getD l.length default = e := by simp [List.getD_eq_getElem?_getD]
  rw [he, clkU_congr (l := l ++ [e]) (m := l) (k := l.length) (fun i hi => getD_app _ _ (by omega)), jf_congr (l := l ++ [e]) (m := l) _ fun i hi => ⟨getD_app _ _ (by omega), rfl⟩]

theorem at_snoc (l : List Ev) (e : Ev) (x : Ev × List Int) : At (l ++ [e]) x ↔ At l x ∨ x = (e, newC l e) := by
  constructor
  · rintro ⟨i, hi, rfl⟩
    simp only [List.length_append, List.length_cons, List.length_nil] at hi
    rcases Nat.lt_or_ge i l.length with h | h
    · exact .inl ⟨i, h, by rw [getD_app _ _ h, clkAt_app _ _ h]⟩
    · obtain rfl : i = l.length := by omega
      right
      rw [clkAt_new]
      simp [List.getD_eq_getElem?_getD]
  · rintro (⟨i, hi, rfl⟩ | rfl)
    · exact ⟨i, by simp; omega, by rw [getD_app _ _ hi, clkAt_app _ _ hi]⟩
    · exact ⟨l.length, by simp, by rw [clkAt_new]; simp [List.getD_eq_getElem?_getD]⟩

theorem newC_jle (l : List Ev) (e : Ev) (t : Nat) (n : Int) : n ≤ (jf (clkU l l.length) l e l.length).getD t 0 ↔ n ≤ 0 ∨ ∃ x, At l x ∧ depE x.1 e = true ∧ n ≤ x.2.getD t 0 := by
  rw [jf_le l e (Nat.le_refl _) t n (Nat.le_refl _)]
  constructor
  · rintro (h | ⟨j, h1, h2, h3⟩)
    · exact .inl h
    · exact .inr ⟨_, ⟨j, h1, rfl⟩, h2, h3⟩
  · rintro (h | ⟨x, ⟨j, h1, rfl⟩, h2, h3⟩)
    · exact .inl h
    · exact .inr ⟨j, h1, h2, h3⟩
theorem jfl_length (l : List Ev) (e : Ev) : (jf (clkU l l.length) l e l.length).length = 4 := (OkC.jf (okC_clkU l l.length) l.length (by rw [clkU_length]; exact Nat.le_refl _)).1
/-- It is told by those that it depends on. -/
theorem newC_congr {a b : List Ev} {e : Ev} (h : ∀ x, depE x.1 e = true → (At a x ↔ At b x)) : newC a e = newC b e := by
  unfold newC
  congr 1
  apply ext_getD
  · rw [jfl_length, jfl_length]
  · intro t
    have key : ∀ n, n ≤ (jf (clkU a a.length) a e a.length).getD t 0 ↔ n ≤ (jf (clkU b b.length) b e b.length).getD t 0 := by
      intro n
      rw [newC_jle, newC_jle]
      constructor
      · rintro (h1 | ⟨x, h1, h2, h3⟩)
        · exact .inl h1
        · exact .inr ⟨x, (h x h2).1 h1, h2, h3⟩
      · rintro (h1 | ⟨x, h1, h2, h3⟩)
        · exact .inl h1
        · exact .inr ⟨x, (h x h2).2 h1, h2, h3⟩
    have h1 := (key _).1 (Int.le_refl _)
    have h2 := (key _).2 (Int.le_refl _)
    omega
theorem allR_snoc {l : List Ev} {e : Ev} : AllR (l ++ [e]) ↔ AllR l ∧ rightR e = true := by simp [AllR]
theorem cn_app (l v : List Ev) {i : Nat} (h : i ≤ l.length) (t : Nat) : cn (l ++ v) i t = cn l i t := by
  unfold cn
  rw [List.take_append_of_le_length h]
theorem thN_app (l v : List Ev) {i : Nat} (h : i < l.length) : thN (l ++ v) i = thN l i := by unfold thN; rw [getD_app _ _ h]

theorem ptx_new {l : List Ev} {e : Ev} (h : AllR l) (he : rightR e = true) : ptx (e, newC l e) = ((e.th.toNat : Int), ((cn l l.length e.th.toNat + 1 : Nat) : Int)) := by
  have h1 : AllR (l ++ [e]) := allR_snoc.2 ⟨h, he⟩
  have h2 := pt_eq h1 (i := l.length) (by simp)
  have hth : thN (l ++ [e]) l.length = e.th.toNat := by simp [thN, List.getD_eq_getElem?_getD]
  rw [cn_succ h1 (by simp), hth, if_pos rfl, cn_app _ _ (Nat.le_refl _)] at h2
  rw [← h2]
  unfold pt
  rw [clkAt_new]
  simp [List.getD_eq_getElem?_getD]

theorem Iso.snoc {a b : List Ev} (h : Iso a b) (e : Ev) : Iso (a ++ [e]) (b ++ [e]) := by
  intro x
  rw [at_snoc, at_snoc, newC_congr (a := a) (b := b) fun x _ => h x, h x]
theorem Iso.app {a b : List Ev} (h : Iso a b) : ∀ (v : List Ev), Iso (a ++ v) (b ++ v)
  | [] => by simpa using h
  | e :: v => by
    have := Iso.app (h.snoc e) v
    simpa using this
theorem at_num {l : List Ev} (h : AllR l) {x : Ev × List Int} (hx : At l x) : (ptx x).2 ≤ (cn l l.length x.1.th.toNat : Int) := by
  obtain ⟨i, hi, rfl⟩ := hx
  have := pt_eq h hi
  unfold pt at this
  rw [this]
  have := cn_mono h (thN l i) (i := i + 1) (k := l.length) (by omega) (Nat.le_refl _)
  simp only [thN] at this ⊢
  omega
theorem Iso.unsnoc {a b : List Ev} {e : Ev} (ha : AllR a) (hb : AllR b) (he : rightR e = true) (h : Iso (a ++ [e]) (b ++ [e])) : Iso a b := by
  have hN : ∀ t, cn a a.length t = cn b b.length t := by
    intro t
    have h1 := h.cnt (allR_snoc.2 ⟨ha, he⟩) (allR_snoc.2 ⟨hb, he⟩) t
    simp only [List.length_append, List.length_cons, List.length_nil] at h1
    rw [cn_succ (allR_snoc.2 ⟨ha, he⟩) (by simp), cn_succ (allR_snoc.2 ⟨hb, he⟩) (by simp), cn_app _ _ (Nat.le_refl _), cn_app _ _ (Nat.le_refl _)] at h1
    have hta : thN (a ++ [e]) a.length = e.th.toNat := by simp [thN, List.getD_eq_getElem?_getD]
    have htb : thN (b ++ [e]) b.length = e.th.toNat := by simp [thN, List.getD_eq_getElem?_getD]
    rw [hta, htb] at h1
    omega
  have key : ∀ (a b : List Ev), AllR a → AllR b → (∀ t, cn a a.length t = cn b b.length t) → (∀ x, At (a ++ [e]) x → At (b ++ [e]) x) → ∀ x, At a x → At b x := by
    intro a b ha hb hN h x hx
    rcases (at_snoc b e x).1 (h x ((at_snoc a e x).2 (.inl hx))) with h1 | rfl
    · exact h1
    · exfalso
      have h1 := at_num ha hx
      rw [ptx_new hb he] at h1
      simp only [hN] at h1
      omega
  exact fun x => ⟨key a b ha hb hN (fun x hx => (h x).1 hx) x, key b a hb ha (fun t => (hN t).symm) (fun x hx => (h x).2 hx) x⟩

/-- Two neighbours that do not depend on one another, swapped. -/
theorem iso_swap (u v : List Ev) {x y : Ev} (hd : depE x y = false) : Iso (u ++ x :: y :: v) (u ++ y :: x :: v) := by
  have hd' : depE y x = false := by rw [depE_comm]; exact hd
  have base : Iso (u ++ [x] ++ [y]) (u ++ [y] ++ [x]) := by
    intro z
    have h1 : newC (u ++ [x]) y = newC u y := newC_congr fun z hz => by
      rw [at_snoc]
      constructor
      · rintro (h | rfl)
        · exact h
        · simp only [hd] at hz; cases hz
      · exact .inl
    have h2 : newC (u ++ [y]) x = newC u x := newC_congr fun z hz => by
      rw [at_snoc]
      constructor
      · rintro (h | rfl)
        · exact h
        · simp only [hd'] at hz; cases hz
      · exact .inl
    rw [at_snoc, at_snoc, at_snoc, at_snoc, h1, h2]
    constructor
    · rintro ((h | h) | h)
      · exact .inl (.inl h)
      · exact .inr h
      · exact .inl (.inr h)
    · rintro ((h | h) | h)
      · exact .inl (.inl h)
      · exact .inr h
      · exact .inl (.inr h)
  have := base.app v
  simpa using this

/-- Two of unlike threads that do. -/
theorem not_iso_swap {u v : List Ev} {x y : Ev} (h : AllR (u ++ x :: y :: v)) (ht : x.th ≠ y.th) (hd : depE x y = true) : ¬ Iso (u ++ y :: x :: v) (u ++ x :: y :: v) := by
  intro hi
  have h2 : AllR (u ++ y :: x :: v) := by
    simp only [AllR, List.all_append, List.all_cons, Bool.and_eq_true] at h ⊢
    exact ⟨h.1, h.2.2.1, h.2.1, h.2.2.2⟩
  have g1 : (u ++ x :: y :: v).getD u.length default = x := by simp [List.getD_eq_getElem?_getD]
  have g2 : (u ++ x :: y :: v).getD (u.length + 1) default = y := by simp [List.getD_eq_getElem?_getD]
  have g3 : (u ++ y :: x :: v).getD u.length default = y := by simp [List.getD_eq_getElem?_getD]
  have l1 : u.length + 1 < (u ++ x :: y :: v).length := by simp
  have l2 : u.length < (u ++ y :: x :: v).length := by simp
  have t1 : thN (u ++ x :: y :: v) u.length = x.th.toNat := by unfold thN; rw [g1]
  have t2 : thN (u ++ x :: y :: v) (u.length + 1) = y.th.toNat := by unfold thN; rw [g2]
  have t3 : thN (u ++ y :: x :: v) u.length = y.th.toNat := by unfold thN; rw [g3]
  have hne : x.th.toNat ≠ y.th.toNat := by
    have b1 := (thN_lt h (i := u.length) (by omega)).2
    have b2 := (thN_lt h l1).2
    rw [t1, g1] at b1
    rw [t2, g2] at b2
    omega
  have hk : clkAt (u ++ x :: y :: v) (u.length + 1) = clkAt (u ++ y :: x :: v) u.length := by
    have ha := (hi _).1 ⟨u.length, l2, rfl⟩
    have := At.uniq h ha ⟨u.length + 1, l1, rfl⟩ (by
      show pt _ _ = pt _ _
      rw [pt_eq h2 l2, pt_eq h l1, t2, t3, cn_succ h2 l2, t3, if_pos rfl, cn_succ h l1, t2, if_pos rfl, cn_succ h (by omega), t1, if_neg hne, cn_app _ _ (Nat.le_refl _), cn_app _ _ (Nat.le_refl _)])
    injection this with _ e
    exact e.symm
  have c1 : ck (u ++ x :: y :: v) (u.length + 1) x.th.toNat = ck (u ++ y :: x :: v) u.length x.th.toNat := by rw [← clkAt_getD, ← clkAt_getD, hk]
  have c2 := ck_dep h l1 (j := u.length) (by omega) (by rw [g1, g2]; exact hd) x.th.toNat
  have c3 := ck_own h u.length (by omega)
  rw [t1, cn_succ h (by omega), t1, if_pos rfl, cn_app _ _ (Nat.le_refl _)] at c3
  have c4 := ck_le h2 u.length l2 x.th.toNat
  rw [cn_succ h2 l2, t3, if_neg (fun e => hne e.symm), cn_app _ _ (Nat.le_refl _)] at c4
  omega
end Go.Proofs.Ytobdagjdhgjplaa
set_option linter.unusedSimpArgs false
set_option linter.unusedVariables false
namespace Go.Proofs.Ytobdagjdhgjplaa
open Go Go.Sn

def whM (b : List Ev) (k : Nat) : List ((Int × Int) × Ev) := (List.range k).map fun i => (pt b i, b.getD i default)
def knM (b : List Ev) (k : Nat) : List ((Int × Int) × List Int) := (List.range k).map fun i => (pt b i, clkAt b i)
def okAt (a b : List Ev) (i : Nat) : Bool :=
  decide ((getM (whM b b.length) (pt a i)).getD ev0 = a.getD i default) && decide ((getM (knM b b.length) (pt a i)).getD [0, 0, 0, 0] = clkAt a i)
def sameE (a b : List Ev) : Bool := a.all rightR && b.all rightR && decide (a.length = b.length) && (List.range a.length).all (okAt a b)

theorem pts_nodup {b : List Ev} (h : AllR b) {k : Nat} (hk : k ≤ b.length) : ((List.range k).map (pt b)).Nodup := by
  rw [List.nodup_iff_pairwise_ne, List.pairwise_map]
  have h0 : (List.range k).Nodup := List.nodup_range
  rw [List.nodup_iff_pairwise_ne] at h0
  refine h0.imp_of_mem fun {i j} hi hj hne e => hne (pt_inj h ?_ ?_ e)
  · have := List.mem_range.1 hi; omega
  · have := List.mem_range.1 hj; omega
theorem whM_keys (b : List Ev) (k : Nat) : (whM b k).map (·.1) = (List.range k).map (pt b) := by simp [whM, List.map_map, Function.comp]
theorem knM_keys (b : List Ev) (k : Nat) : (knM b k).map (·.1) = (List.range k).map (pt b) := by simp [knM, List.map_map, Function.comp]
theorem whM_new {b : List Ev} (h : AllR b) {k : Nat} (hk : k < b.length) : getM (whM b k) (pt b k) = none := by
  refine getM_none_of fun x hx e => ?_
  obtain ⟨i, hi, rfl⟩ := List.mem_map.1 hx
  have := List.mem_range.1 hi
  have := pt_inj h (show i < b.length by omega) hk e
  omega
theorem knM_new {b : List Ev} (h : AllR b) {k : Nat} (hk : k < b.length) : getM (knM b k) (pt b k) = none := by
  refine getM_none_of fun x hx e => ?_
  obtain ⟨i, hi, rfl⟩ := List.mem_map.1 hx
  have := List.mem_range.1 hi
  have := pt_inj h (show i < b.length by omega) hk e
  omega
theorem whM_put {b : List Ev} (h : AllR b) {k : Nat} (hk : k < b.length) : putM (whM b k) (pt b k) (b.getD k default) = whM b (k + 1) := by
  rw [putM_new (whM_new h hk)]
  simp [whM, List.range_succ]
theorem knM_put {b : List Ev} (h : AllR b) {k : Nat} (hk : k < b.length) : putM (knM b k) (pt b k) (clkAt b k) = knM b (k + 1) := by
  rw [putM_new (knM_new h hk)]
  simp [knM, List.range_succ]

theorem okAt_iff {a b : List Ev} (ha : AllR a) (hb : AllR b) {i : Nat} (hi : i < a.length) : okAt a b i = true ↔ At b (a.getD i default, clkAt a i) := by
  unfold okAt
  rw [Bool.and_eq_true, decide_eq_true_eq, decide_eq_true_eq]
  have nw : ((whM b b.length).map (·.1)).Nodup := by rw [whM_keys]; exact pts_nodup hb (Nat.le_refl _)
  have nk : ((knM b b.length).map (·.1)).Nodup := by rw [knM_keys]; exact pts_nodup hb (Nat.le_refl _)
  constructor
  · rintro ⟨h1, h2⟩
    cases hg : getM (whM b b.length) (pt a i) with
    | none =>
      rw [hg] at h1
      have := right_bounds (rightR_getD ha hi)
      rw [← h1] at this
      simp [ev0] at this
    | some v =>
      rw [hg] at h1
      obtain ⟨j, hj, e⟩ := List.mem_map.1 (getM_some hg)
      injection e with e1 e2
      have hjl := List.mem_range.1 hj
      have hk : getM (knM b b.length) (pt a i) = some (clkAt b j) := getM_of_mem nk (List.mem_map.2 ⟨j, hj, by rw [e1]⟩)
      rw [hk] at h2
      simp only [Option.getD_some] at h1 h2
      exact ⟨j, hjl, by rw [e2, h1, h2]⟩
  · rintro ⟨j, hj, e⟩
    have hp : pt b j = pt a i := by unfold pt; rw [e]
    injection e with e1 e2
    have hw : getM (whM b b.length) (pt a i) = some (b.getD j default) := getM_of_mem nw (List.mem_map.2 ⟨j, List.mem_range.2 hj, by rw [hp]⟩)
    have hk : getM (knM b b.length) (pt a i) = some (clkAt b j) := getM_of_mem nk (List.mem_map.2 ⟨j, List.mem_range.2 hj, by rw [hp]⟩)
    rw [hw, hk]
    exact ⟨e1, e2⟩

theorem sameE_iff {a b : List Ev} (ha : AllR a) (hb : AllR b) : sameE a b = true ↔ Iso a b := by
  have ha' : a.all rightR = true := ha
  have hb' : b.all rightR = true := hb
  unfold sameE
  rw [ha', hb', Bool.true_and, Bool.true_and, Bool.and_eq_true, decide_eq_true_eq, List.all_eq_true]
  constructor
  · rintro ⟨hl, h⟩
    refine iso_of ha hb hl ?_
    rintro x ⟨i, hi, rfl⟩
    exact (okAt_iff ha hb hi).1 (h i (List.mem_range.2 hi))
  · intro h
    refine ⟨h.len ha hb, fun i hi => ?_⟩
    have hi' := List.mem_range.1 hi
    exact (okAt_iff ha hb hi').2 ((h _).1 ⟨i, hi', rfl⟩)

/-! ### by definition -/

def pAt (l : List Ev) (t : Int) (n : Nat) (i : Nat) : Bool := decide ((l.getD i default).th = t) && decide (cntT t (l.take (i + 1)) = n)
def placeN (l : List Ev) (t : Int) (n : Nat) : Int := match (List.range l.length).find? (pAt l t n) with
  | some i => (i : Int)
  | none => -1
def toI (a b : List Ev) (i : Nat) : Int := placeN b (a.getD i default).th (cntT (a.getD i default).th (a.take (i + 1)))
def okTo (a b : List Ev) (i : Nat) : Bool := decide (0 ≤ toI a b i) && decide (b.getD (toI a b i).toNat default = a.getD i default)
def okOrd (a b : List Ev) (i k : Nat) : Bool := decide (ordB a i k = ordB b (toI a b i).toNat (toI a b k).toNat)
def sameR (a b : List Ev) : Bool :=
  decide (a.length = b.length) && a.all rightR && b.all rightR && (List.range a.length).all (okTo a b) && (List.range a.length).all fun i => (List.range a.length).all (okOrd a b i)

theorem placeN_le (l : List Ev) (t : Int) (n : Nat) : placeN l t n < (l.length : Int) ∧ -1 ≤ placeN l t n := by
  unfold placeN
  split
  · rename_i i h
    have := List.mem_range.1 (List.mem_of_find?_eq_some h)
    omega
  · omega
theorem placeN_some {l : List Ev} {t : Int} {n j : Nat} (h : AllR l) (hj : j < l.length) (ht : (thN l j : Int) = t) (hn : cn l (j + 1) (thN l j) = n) : placeN l t n = (j : Int) := by
  have hp : pAt l t n j = true := by
    unfold pAt
    rw [Bool.and_eq_true, decide_eq_true_eq, decide_eq_true_eq, ← (thN_lt h hj).2]
    refine ⟨ht, ?_⟩
    unfold cn at hn
    rw [ht] at hn
    exact hn
  unfold placeN
  cases hf : (List.range l.length).find? (pAt l t n) with
  | none =>
    rw [List.find?_eq_none] at hf
    exact absurd hp (hf j (List.mem_range.2 hj))
  | some i =>
    have hi := List.mem_range.1 (List.mem_of_find?_eq_some hf)
    have hpi := List.find?_some hf
    unfold pAt at hpi
    rw [Bool.and_eq_true, decide_eq_true_eq, decide_eq_true_eq] at hpi
    have h1 : thN l i = thN l j := by have := (thN_lt h hi).2; omega
    have h2 : cn l (i + 1) (thN l i) = n := by unfold cn; rw [h1, ht]; exact hpi.2
    have := cn_inj h hi hj h1 (by rw [h2]; exact hn.symm)
    rw [this]
theorem placeN_spec {l : List Ev} {t : Int} {n : Nat} (h : AllR l) (h0 : 0 ≤ placeN l t n) : (placeN l t n).toNat < l.length ∧ (thN l (placeN l t n).toNat : Int) = t ∧ cn l ((placeN l t n).toNat + 1) (thN l (placeN l t n).toNat) = n := by
  unfold placeN at h0 ⊢
  cases hf : (List.range l.length).find? (pAt l t n) with
  | none => rw [hf] at h0; simp at h0
  | some i =>
    have hi := List.mem_range.1 (List.mem_of_find?_eq_some hf)
    have hpi := List.find?_some hf
    unfold pAt at hpi
    rw [Bool.and_eq_true, decide_eq_true_eq, decide_eq_true_eq] at hpi
    have h1 : (thN l i : Int) = t := by rw [(thN_lt h hi).2]; exact hpi.1
    simp only [Int.toNat_natCast]
    refine ⟨hi, h1, ?_⟩
    unfold cn
    rw [h1]
    exact hpi.2

theorem toI_some {a b : List Ev} (ha : AllR a) (hb : AllR b) {i j : Nat} (hi : i < a.length) (hj : j < b.length) (e : pt b j = pt a i) : toI a b i = (j : Int) := by
  rw [pt_eq ha hi, pt_eq hb hj] at e
  injection e with e1 e2
  unfold toI
  refine placeN_some hb hj (by rw [e1]; exact (thN_lt ha hi).2) ?_
  have : cntT (a.getD i default).th (a.take (i + 1)) = cn a (i + 1) (thN a i) := by unfold cn; rw [(thN_lt ha hi).2]
  rw [this]
  omega
theorem hb_iff {l : List Ev} (h : AllR l) {i k : Nat} (hi : i < l.length) (hk : k < l.length) : hbf l i k = true ↔ (cn l (i + 1) (thN l i) : Int) ≤ ck l k (thN l i) := by
  unfold hbf
  rw [Bool.and_eq_true, decide_eq_true_eq, decide_eq_true_eq]
  constructor
  · exact fun h => h.2
  · intro h1
    refine ⟨?_, h1⟩
    have := ck_le h k hk (thN l i)
    exact le_of_cn h hi hk rfl (by omega)

theorem sameR_iff {a b : List Ev} (ha : AllR a) (hb : AllR b) : sameR a b = true ↔ Iso a b := by
  have ha' : a.all rightR = true := ha
  have hb' : b.all rightR = true := hb
  unfold sameR
  rw [ha', hb', Bool.and_true, Bool.and_true, Bool.and_eq_true, Bool.and_eq_true, decide_eq_true_eq, List.all_eq_true, List.all_eq_true]
  constructor
  · rintro ⟨⟨hl, h1⟩, h2⟩
    have hto : ∀ i, i < a.length → ∃ j, j < b.length ∧ toI a b i = (j : Int) ∧ b.getD j default = a.getD i default ∧ thN b j = thN a i ∧ cn b (j + 1) (thN a i) = cn a (i + 1) (thN a i) := by
      intro i hi
      have h3 := h1 i (List.mem_range.2 hi)
      unfold okTo at h3
      rw [Bool.and_eq_true, decide_eq_true_eq, decide_eq_true_eq] at h3
      obtain ⟨h4, h5⟩ := h3
      have h6 := placeN_spec hb (show 0 ≤ placeN b (a.getD i default).th (cntT (a.getD i default).th (a.take (i + 1))) from h4)
      have h7 : thN b (toI a b i).toNat = thN a i := by unfold thN; rw [h5]
      refine ⟨(toI a b i).toNat, h6.1, by omega, h5, h7, ?_⟩
      rw [← h7]
      have h8 := h6.2.2
      unfold toI at h7 ⊢
      rw [h8]
      unfold cn
      rw [h7, (thN_lt ha hi).2]
    have hN : ∀ t, cn a a.length t ≤ cn b b.length t := by
      intro t
      by_cases hp : 0 < cn a a.length t
      · obtain ⟨i, g1, g2, g3⟩ := cn_last ha t (Nat.le_refl _) hp
        obtain ⟨j, g4, _, _, g5, g6⟩ := hto i g1
        rw [g2] at g6
        have := cn_mono hb t (i := j + 1) (k := b.length) (by omega) (Nat.le_refl _)
        omega
      · omega
    have la := len_cn ha (Nat.le_refl a.length)
    have lb := len_cn hb (Nat.le_refl b.length)
    have hE : ∀ t, t < 4 → cn a a.length t = cn b b.length t := by
      intro t ht
      have h0 := hN 0
      have h1 := hN 1
      have h2 := hN 2
      have h3 := hN 3
      have : t = 0 ∨ t = 1 ∨ t = 2 ∨ t = 3 := by omega
      rcases this with rfl | rfl | rfl | rfl <;> omega
    have hord : ∀ i k ji jk, i < a.length → k < a.length → ji < b.length → jk < b.length → toI a b i = (ji : Int) → toI a b k = (jk : Int) → hbf a k i = hbf b jk ji := by
      intro i k ji jk hi hk hji hjk e1 e2
      have h3 := h2 i (List.mem_range.2 hi)
      rw [List.all_eq_true] at h3
      have h4 := h3 k (List.mem_range.2 hk)
      unfold okOrd at h4
      rw [decide_eq_true_eq, e1, e2, Int.toNat_natCast, Int.toNat_natCast, ord_hb ha i hi k hk, ord_hb hb ji hji jk hjk] at h4
      exact h4
    refine iso_of ha hb hl ?_
    rintro x ⟨i, hi, rfl⟩
    obtain ⟨j, g1, g2, g3, g4, g5⟩ := hto i hi
    refine ⟨j, g1, ?_⟩
    rw [g3]
    congr 1
    apply ext_getD
    · rw [clkAt_length g1, clkAt_length hi]
    · intro t
      rw [clkAt_getD, clkAt_getD]
      by_cases ht : t < 4
      · have n1 := ck_nonneg a hi t
        have n2 := ck_nonneg b g1 t
        have le1 : ck a i t ≤ ck b j t := by
          by_cases hp : 0 < ck a i t
          · have hc := ck_le ha i hi t
            have hm := cn_mono ha t (i := i + 1) (k := a.length) (by omega) (Nat.le_refl _)
            obtain ⟨k, k1, k2, k3⟩ := cn_ex ha t (ck a i t).toNat (by omega) (Nat.le_refl a.length) (by omega)
            obtain ⟨jk, m1, m2, m3, m4, m5⟩ := hto k k1
            have e := hord i k j jk hi k1 g1 m1 g2 m2
            have h5 : hbf a k i = true := (hb_iff ha k1 hi).2 (by rw [k2, k3]; omega)
            rw [h5] at e
            have h6 := (hb_iff hb m1 g1).1 e.symm
            rw [k2] at m4 m5
            rw [m4, m5, k3] at h6
            omega
          · omega
        have le2 : ck b j t ≤ ck a i t := by
          by_cases hp : 0 < ck b j t
          · have hc := ck_le hb j g1 t
            have hm := cn_mono hb t (i := j + 1) (k := b.length) (by omega) (Nat.le_refl _)
            rw [← hE t ht] at hm
            obtain ⟨k, k1, k2, k3⟩ := cn_ex ha t (ck b j t).toNat (by omega) (Nat.le_refl a.length) (by omega)
            obtain ⟨jk, m1, m2, m3, m4, m5⟩ := hto k k1
            have e := hord i k j jk hi k1 g1 m1 g2 m2
            rw [k2] at m4 m5
            have h5 : hbf b jk j = true := (hb_iff hb m1 g1).2 (by rw [m4, m5, k3]; omega)
            rw [h5] at e
            have h6 := (hb_iff ha k1 hi).1 e
            rw [k2, k3] at h6
            omega
          · omega
        omega
      · have l1 := clkAt_length hi
        have l2 := clkAt_length g1
        rw [← clkAt_getD, ← clkAt_getD, List.getD_eq_getElem?_getD, List.getD_eq_getElem?_getD, List.getElem?_eq_none (by omega), List.getElem?_eq_none (by omega)]
  · intro h
    have hex : ∀ i, i < a.length → ∃ j, j < b.length ∧ toI a b i = (j : Int) ∧ b.getD j default = a.getD i default ∧ clkAt b j = clkAt a i ∧ pt b j = pt a i := by
      intro i hi
      obtain ⟨j, hj, e⟩ := (h _).1 ⟨i, hi, rfl⟩
      have hp : pt b j = pt a i := by unfold pt; rw [e]
      injection e with e1 e2
      exact ⟨j, hj, toI_some ha hb hi hj hp, e1, e2, hp⟩
    refine ⟨⟨h.len ha hb, fun i hi => ?_⟩, fun i hi => List.all_eq_true.2 fun k hk => ?_⟩
    · obtain ⟨j, g1, g2, g3, _⟩ := hex i (List.mem_range.1 hi)
      unfold okTo
      rw [Bool.and_eq_true, decide_eq_true_eq, decide_eq_true_eq, g2, Int.toNat_natCast]
      exact ⟨by omega, g3⟩
    · have hi' := List.mem_range.1 hi
      have hk' := List.mem_range.1 hk
      obtain ⟨j, g1, g2, g3, g4, _⟩ := hex i hi'
      obtain ⟨m, m1, m2, m3, m4, m5⟩ := hex k hk'
      unfold okOrd
      rw [decide_eq_true_eq, g2, m2, Int.toNat_natCast, Int.toNat_natCast, ord_hb ha i hi' k hk', ord_hb hb j g1 m m1, Bool.eq_iff_iff, hb_iff ha hk' hi', hb_iff hb m1 g1]
      rw [pt_eq ha hk', pt_eq hb m1] at m5
      injection m5 with e1 e2
      have e1' : thN b m = thN a k := by omega
      rw [← clkAt_getD, ← clkAt_getD, g4, e1']
      rw [e1'] at e2
      rw [e2]

/-- The document's answer is the program's. -/
theorem same_eq (a b : List Ev) : sameE a b = sameR a b := by
  by_cases h : a.all rightR = true ∧ b.all rightR = true
  · rw [Bool.eq_iff_iff, sameE_iff h.1 h.2, sameR_iff h.1 h.2]
  · unfold sameE sameR
    cases h1 : a.all rightR <;> cases h2 : b.all rightR <;> simp_all
end Go.Proofs.Ytobdagjdhgjplaa
set_option linter.unusedSimpArgs false
set_option linter.unusedVariables false
namespace Go.Proofs.Ytobdagjdhgjplaa
open Go Go.Sn Go.RowKit

theorem placeN_none {l : List Ev} {t : Int} {n : Nat} (h : (List.range l.length).find? (pAt l t n) = none) : placeN l t n = -1 := by unfold placeN; rw [h]
theorem placeN_at {l : List Ev} {t : Int} {n k : Nat} (hk : k < l.length) (h : (List.range k).find? (pAt l t n) = none) (hp : pAt l t n k = true) : placeN l t n = (k : Int) := by
  unfold placeN
  have : (List.range l.length).find? (pAt l t n) = some k := by
    rw [List.find?_range_eq_some]
    refine ⟨hp, by simpa using hk, fun j hj => ?_⟩
    rw [List.find?_eq_none] at h
    simpa using h j (List.mem_range.2 hj)
  rw [this]
theorem find_range_succ {p : Nat → Bool} {k : Nat} (h : (List.range k).find? p = none) (hp : p k = false) : (List.range (k + 1)).find? p = none := by
  rw [List.range_succ, List.find?_append, h]
  simp [hp]
theorem toI_le (a b : List Ev) (i : Nat) : toI a b i < (b.length : Int) ∧ -1 ≤ toI a b i := placeN_le _ _ _
theorem row_len {l : List Ev} {k : Nat} (h : k < l.length) : ((ordU l l.length).getD k []).length = l.length :=
  ordU_rows l l.length _ (by simp [List.getD, List.getElem?_eq_getElem (show k < (ordU l l.length).length by rw [ordU_length]; exact h)])
theorem all_range_succ {p : Nat → Bool} {k : Nat} (h : (List.range k).all p = true) (hp : p k = true) : (List.range (k + 1)).all p = true := by
  rw [List.range_succ, List.all_append, h]; simp [hp]
theorem all_range_not {p : Nat → Bool} {k n : Nat} (h : k < n) (hp : p k = false) : (List.range n).all p = false := by
  rw [Bool.eq_false_iff]
  intro e
  rw [List.all_eq_true] at e
  rw [e k (List.mem_range.2 h)] at hp
  cases hp
end Go.Proofs.Ytobdagjdhgjplaa
