/-
  Contracts: the races within a row.
-/
import Derived.Test.YtobdagjdhgjplaaRcC
import Derived.Test.YtobdagjdhgjplaaRcD
set_option linter.unusedSimpArgs false
set_option linter.unusedVariables false
namespace Go.Proofs.Ytobdagjdhgjplaa
open Go Go.Sn Go.RowKit

/-- A gathered list beside a block that is ours. -/
theorem coll_beside {H0 Ha : Heap} {e sz p : Nat} {xs : List (List D)} {d : D} (r : Res) (h : Coll H0 e sz xs d Ha) (hp : Ha p = none) : Coll (H0.set p r) e sz xs d (Ha.set p r) := by
  cases h with
  | none h => exact .none h
  | some b cap hb =>
    obtain ⟨hne, _⟩ := Heap.set_none.1 hp
    rw [Heap.set_comm _ _ _ (fun e => hne e.symm)]
    exact .some b cap (by rw [Heap.set_other _ _ (fun e => hne e.symm)]; exact hb)
theorem coll_less {H0 Ha : Heap} {e sz p : Nat} {xs : List (List D)} {d : D} {r : Res} (hp : H0 p = none) (h : Coll (H0.set p r) e sz xs d Ha) : ∃ Hb, Coll H0 e sz xs d Hb ∧ Hb.sub Ha := by
  cases h with
  | none h => exact ⟨H0, .none h, Heap.sub_set (Heap.sub_refl _) hp⟩
  | some b cap hb =>
    obtain ⟨hne, h2⟩ := Heap.set_none.1 hb
    exact ⟨_, .some b cap h2, Heap.sub_congr (Heap.sub_set (Heap.sub_refl _) hp)⟩
theorem coll_fresh {H0 Ha : Heap} {e sz p : Nat} {xs : List (List D)} {d : D} (h : Coll H0 e sz xs d Ha) (hp : Ha p = none) : H0 p = none := by
  cases h with
  | none h => exact hp
  | some b cap hb => exact (Heap.set_none.1 hp).2
theorem revP_le (l : List Ev) {k : Nat} (hk : k ≤ l.length) (hl : l.length ≤ 1000) : (revP l k).length ≤ 1000000 := by
  have h1 := revP_len l k
  have h2 : k * l.length ≤ 1000 * 1000 := Nat.mul_le_mul (by omega) hl
  omega
theorem allR_take {l : List Ev} (h : AllR l) (k : Nat) : AllR (l.take k) := List.all_eq_true.2 fun x hx => List.all_eq_true.1 h x (List.mem_of_mem_take hx)

set_option maxRecDepth 100000 in
set_option maxHeartbeats 16000000 in
theorem rev_call (W : World) (H : Heap) (l : List Ev) (hl : l.length ≤ 1000) :
    CallA Try.prog W 39 [.list (evsC l)] H fun r H' => r = .list (rcsC (revE l)) ∧ H' = H := by
  refine call_in Try.func39 rfl Try.ntmps39 (by simp) ?_
  have c1 := fun H => rightsQ_call W H l (by omega)
  unfold revE
  by_cases hR : l.all rightR = true
  · rw [if_pos hR]
    rw [hR] at c1
    repeat' (first
    | (with_reducible apply run_seq)
    | (with_reducible apply run_block)
    | (with_reducible apply run_skip)
    | ((with_reducible apply run_go); simp only [go_sem, *])
    | ((with_reducible apply run_cond_f); (focus (simp only [go_sem, *]; done)))
    | ((with_reducible apply runO_callF known59); simp only [go_sem, *]; refine (c1 _).use ?_; (with_reducible apply runO_go); simp only [go_sem, *]))
    clear c1
    refine run_loop (fun na ea Ha => ∃ (k : Nat), k ≤ l.length ∧ na = l.length - k ∧ ea 0 = .list (evsC l) ∧ ea 8 = .list (evsC l) ∧ ea 9 = .v (.int .i64 (l.length : Int)) ∧ ea 10 = .v (.int .i64 (k : Int)) ∧ Coll (H) (74) (2) (rcsC (revP l k)) (ea 2) Ha) (l.length)
        ⟨0, Nat.zero_le _, rfl, (by simp only [go_sem, *]), (by simp only [go_sem, *]), (by simp only [go_sem, *]), (by simp only [go_sem] <;> rfl), (by simp only [go_sem]; exact .none rfl)⟩ ?_
    rintro na ea Ha ih ⟨k, ak, rfl, as0, as8, as9, as10, ca⟩
    generalize hac : ea 2 = da at ca
    have IHa : Hid _ := ih
    clear ih
    have hsub := ca.sub
    have hfl := ca.flat
    by_cases hlt : k < l.length
    · have hw := wrap_succ (k := k) (by omega)
      have hsu := revP_succ l k
      have hb := revP_le l ak hl
      have hb2 := racP_len (l.take k) (l.getD k default)
      rw [List.length_take] at hb2
      have c2 := fun H => with_call W H (l.take k) (l.getD k default) (allR_take hR k) (by rw [List.length_take]; omega)
      have hal := evsC_all l
      have HSU : Hid _ := hsu
      clear hsu
      repeat' (first
    | (with_reducible apply run_seq)
    | (with_reducible apply run_block)
    | (with_reducible apply run_skip)
    | ((with_reducible apply run_go); simp only [go_sem, *])
    | ((with_reducible apply run_drawGo Cl.zero Cl.zero_plain mixed); (focus kernel_rfl); simp only [go_sem, *])
    | ((with_reducible apply run_cond_t); (focus (simp only [go_sem, *]; done)))
    | ((with_reducible apply runO_alloc); (focus (simp only [go_sem, *]; rfl)); intro pb hpb; have hfb := Heap.ne_of_none hpb; (try simp only [Heap.set_none'] at hpb); (with_reducible apply runO_go); simp only [go_sem, *])
    | ((with_reducible apply runO_store); (focus (simp only [go_sem]; rfl)); (focus (simp only [go_sem, *]; rfl)); (focus (simp only [go_sem, *]; rfl)); (focus (simp only [go_sem, *]; done)); (focus (simp only [go_sem, *]; done)); (focus (simp only [go_sem, *]; done)); (with_reducible apply runO_go); simp only [go_sem, *, Heap.set_set])
    | ((first | (with_reducible apply runA_and) | (with_reducible apply runO_and) | (with_reducible apply runD_and)); (focus (first | assumption | (simp only [go_sem, *]; done) | (simp only [go_sem, *]; assumption))); (try simp only [go_sem, *]))
    | ((with_reducible apply runD_callF known60); (focus rfl); (focus (simp only [go_sem, *]; exact c2 _)); (with_reducible first | apply runD_go Cl.zero_plain | apply runD_goC); simp only [go_sem, *]))
      have hcb := coll_beside (.cells (evC (l.getD k default)) 55) ca hpb
      have hpf := coll_fresh ca hpb
      (refine runD_coll (t := 66) Try.underlying66 sz74 by74 zr74 rfl (by simp only [go_sem, *]; exact hcb) (by simp only [go_sem, *]; rfl) (rcsC_all _) (rcsC_all _) (by (try simp only [List.length_range, List.length_map, List.length_take, List.length_cons, List.length_nil, List.length_append, go_sem]); omega) (by (try simp only [maxLen, List.length_range, List.length_map, List.length_take, List.length_cons, List.length_nil, List.length_append, go_sem]); omega) (fun d1 H1 hc1 => ?_); (with_reducible first | apply runD_go Cl.zero_plain | apply runD_goC); simp only [go_sem, *])
      obtain ⟨H2, hc2, hs2⟩ := coll_less hpf hc1
      repeat' (first
    | (with_reducible apply run_inBlock)
    | ((with_reducible apply run_go); simp only [go_sem, *]))
      refine run_drop hs2 ?_
      refine IHa.out (l.length - (k + 1)) _ _ (by omega) ⟨k + 1, by omega, rfl, (by simp only [go_sem, *]), (by simp only [go_sem, *]), (by simp only [go_sem, *]), (by simp only [go_sem, *]), ?_⟩
      simp only [go_sem]
      rw [HSU.out, rcsC_app]
      exact hc2
    · obtain rfl : k = l.length := by omega
      repeat' (first
    | (with_reducible apply run_seq)
    | (with_reducible apply run_exit rfl)
    | ((with_reducible apply run_go); simp only [go_sem, *])
    | ((with_reducible apply run_cond_f); (focus (simp only [go_sem, *]; done)))
    | ((with_reducible apply run_ret Try.func39 res39 (H' := H)); (focus (simp only [go_sem, *]; rfl)); (focus trivial); (focus (repeat (first | assumption | exact Heap.sub_refl _ | refine Heap.sub_congr ?_ | refine Heap.sub_set ?_ (by assumption) | refine Heap.sub_set2 ?_ (by first | assumption | (simp only [*]; done) | (simp only [Heap.set_none', ne_eq, *, not_false_eq_true, and_self]; done)))))))
      exact ⟨rfl, rfl⟩
  · rw [if_neg hR]
    rw [Bool.not_eq_true] at hR
    rw [hR] at c1
    repeat' (first
    | (with_reducible apply run_seq)
    | ((with_reducible apply run_go); simp only [go_sem, *])
    | ((with_reducible apply run_cond_t); (focus (simp only [go_sem, *]; done)))
    | ((with_reducible apply runO_callF known59); simp only [go_sem, *]; refine (c1 _).use ?_; (with_reducible apply runO_go); simp only [go_sem, *])
    | ((with_reducible apply run_ret Try.func39 res39 (H' := H)); (focus (simp only [go_sem, *]; rfl)); (focus trivial); (focus (repeat (first | assumption | exact Heap.sub_refl _ | refine Heap.sub_congr ?_ | refine Heap.sub_set ?_ (by assumption) | refine Heap.sub_set2 ?_ (by first | assumption | (simp only [*]; done) | (simp only [Heap.set_none', ne_eq, *, not_false_eq_true, and_self]; done)))))))
    exact ⟨rfl, rfl⟩

theorem revD_row (l : List Ev) (k : Nat) : (rcK (l.getD k default).th (wiD (l.take k) (l.getD k default) (l.take k).length)).length ≤ l.length := by
  rw [rcK_len]
  have := wiD_len (l.take k) (l.getD k default) (l.take k).length
  rw [List.length_take] at this ⊢
  omega
theorem rac_eq {l : List Ev} (h : AllR l) (e : Ev) : rcK e.th (wiD l e l.length) = racP l e := by unfold racP; rw [wi_eq h]
theorem rcK_take (t : Int) (l : List Nat) {j : Nat} (h : j < l.length) : rcK t (l.take (j + 1)) = rcK t (l.take j) ++ [⟨((l.getD j default : Nat) : Int), t⟩] := by rw [take_succ_getD _ _ h, rcK_snoc]
theorem natsI_get (l : List Nat) {j : Nat} (h : j < l.length) : (natsI l).getD j default = ((l.getD j default : Nat) : Int) := by simp [natsI, List.getD, h]

set_option maxRecDepth 100000 in
set_option maxHeartbeats 16000000 in
theorem rRev_call (W : World) (H : Heap) (l : List Ev) (hl : l.length ≤ 1000) :
    CallA Try.prog W 40 [.list (evsC l)] H fun r H' => r = .list (rcsC (revE l)) ∧ H' = H := by
  refine call_in Try.func40 rfl Try.ntmps40 (by simp) ?_
  have c1 := fun H => rows_call W H l (by omega)
  unfold revE
  by_cases hR : l.all rightR = true
  · rw [if_pos hR]
    rw [hR] at c1
    repeat' (first
    | (with_reducible apply run_seq)
    | (with_reducible apply run_block)
    | (with_reducible apply run_skip)
    | ((with_reducible apply run_go); simp only [go_sem, *])
    | ((with_reducible apply run_cond_f); (focus (simp only [go_sem, *]; done)))
    | ((with_reducible apply runO_callF known43); simp only [go_sem, *]; refine (c1 _).use ?_; (with_reducible apply runO_go); simp only [go_sem, *]))
    clear c1
    refine run_loop (fun na ea Ha => ∃ (k : Nat), k ≤ l.length ∧ na = l.length - k ∧ ea 0 = .list (evsC l) ∧ ea 4 = .v (.int .i64 (k : Int)) ∧ Coll (H) (100) (2) (rcsC (revP l k)) (ea 3) Ha) (l.length)
        ⟨0, Nat.zero_le _, rfl, (by simp only [go_sem, *]), (by simp only [go_sem] <;> rfl), (by simp only [go_sem]; exact .none rfl)⟩ ?_
    rintro na ea Ha ih ⟨k, ak, rfl, as0, as4, ca⟩
    generalize hac : ea 3 = da at ca
    have IHa : Hid _ := ih
    clear ih
    have hsub := ca.sub
    have hfl := ca.flat
    by_cases hlt : k < l.length
    · have hw := wrap_succ (k := k) (by omega)
      have hsu := revP_succ l k
      have hb := revP_le l ak hl
      have hre := rac_eq (allR_take hR k) (l.getD k default)
      have hwl : (wiD (l.take k) (l.getD k default) (l.take k).length).length ≤ 1000 := Nat.le_trans (wiD_len _ _ _) (by rw [List.length_take]; omega)
      have c2 := fun H => rWith_call W H (l.take k) (l.getD k default) (by rw [List.length_take]; omega)
      have hal := evsC_all l
      rw [← hre] at hsu
      have HSU : Hid _ := hsu
      clear hsu hre
      generalize wiD (l.take k) (l.getD k default) (l.take k).length = M at *
      have hml := natsI_len M
      repeat' (first
    | (with_reducible apply run_seq)
    | (with_reducible apply run_block)
    | (with_reducible apply run_skip)
    | ((with_reducible apply run_go); simp only [go_sem, *])
    | ((with_reducible apply run_drawGo Cl.zero Cl.zero_plain mixed); (focus kernel_rfl); simp only [go_sem, *])
    | ((with_reducible apply run_cond_t); (focus (simp only [go_sem, *]; done)))
    | ((first | (with_reducible apply runA_and) | (with_reducible apply runO_and) | (with_reducible apply runD_and)); (focus (first | assumption | (simp only [go_sem, *]; done) | (simp only [go_sem, *]; assumption))); (try simp only [go_sem, *]))
    | ((with_reducible apply runD_callF known61); (focus rfl); (focus (simp only [go_sem, *]; exact c2 _)); (with_reducible first | apply runD_go Cl.zero_plain | apply runD_goC); simp only [go_sem, *]))
      clear c2
      refine run_loop (fun nb eb Hb => ∃ (j : Nat), j ≤ M.length ∧ nb = M.length - j ∧ eb 0 = .list (evsC l) ∧ eb 4 = .v (.int .i64 (k : Int)) ∧ eb 5 = .list (intsC (natsI M)) ∧ eb 6 = .v (.int .i64 (j : Int)) ∧ Coll (H) (100) (2) (rcsC (revP l k ++ rcK (l.getD k default).th (M.take j))) (eb 3) Hb) (M.length)
          ⟨0, Nat.zero_le _, rfl, (by simp only [go_sem, *]), (by simp only [go_sem, *]), (by simp only [go_sem, *]), (by simp only [go_sem] <;> rfl), (by simp only [go_sem]; exact (by simp only [hac]; simpa [rcK] using ca))⟩ ?_
      rintro nb eb Hb ih ⟨j, bk, rfl, bs0, bs4, bs5, bs6, cb⟩
      generalize hbc : eb 3 = db at cb
      have IHb : Hid _ := ih
      clear ih
      by_cases hj : j < M.length
      · have hwj := wrap_succ (k := j) (by omega)
        have htk := rcK_take (l.getD k default).th M hj
        have hng := natsI_get M hj
        have hrl := rcK_len (l.getD k default).th (M.take j)
        have hrt : (M.take j).length ≤ j := by rw [List.length_take]; omega
        have HTK : Hid _ := htk
        clear htk
        repeat' (first
    | (with_reducible apply run_seq)
    | (with_reducible apply run_block)
    | (with_reducible apply run_skip)
    | ((with_reducible apply run_go); simp only [go_sem, *])
    | ((with_reducible apply run_drawGo Cl.zero Cl.zero_plain mixed); (focus kernel_rfl); simp only [go_sem, *])
    | ((with_reducible apply run_cond_t); (focus (simp only [go_sem, *]; done)))
    | ((with_reducible apply runD_buildSlice); (focus (simp only [go_sem]; rfl)); (focus (simp only [go_sem]; rfl)); (focus (simp only [go_sem]; rfl)); (focus rfl); (focus rfl); (focus (simp only [go_sem, *]; done)); (focus (simp only [go_sem, *]; done)); (focus decide); (with_reducible first | apply runD_go Cl.zero_plain | apply runD_goC); simp only [go_sem, *]))
        (refine runD_coll (t := 64) Try.underlying64 sz100 by100 zr100 rfl (by simp only [go_sem, *]; exact cb) (by simp only [go_sem, *]; rfl) (rcsC_all _) (by simp) (by (try simp only [List.length_range, List.length_map, List.length_take, List.length_cons, List.length_nil, List.length_append, go_sem]); omega) (by (try simp only [maxLen, List.length_range, List.length_map, List.length_take, List.length_cons, List.length_nil, List.length_append, go_sem]); omega) (fun d1 H1 hc1 => ?_); (with_reducible first | apply runD_go Cl.zero_plain | apply runD_goC); simp only [go_sem, *])
        repeat' (first
    | (with_reducible apply run_inBlock)
    | ((with_reducible apply run_go); simp only [go_sem, *]))
        refine IHb.out (M.length - (j + 1)) _ _ (by omega) ⟨j + 1, by omega, rfl, (by simp only [go_sem, *]), (by simp only [go_sem, *]), (by simp only [go_sem, *]), (by simp only [go_sem, *]), ?_⟩
        simp only [go_sem]
        rw [HTK.out, ← List.append_assoc, rcsC_snoc]
        exact hc1
      · obtain rfl : j = M.length := by omega
        repeat' (first
    | (with_reducible apply run_seq)
    | (with_reducible apply run_inBlock)
    | (with_reducible apply run_exit rfl)
    | ((with_reducible apply run_go); simp only [go_sem, *])
    | ((with_reducible apply run_cond_f); (focus (simp only [go_sem, *]; done))))
        refine IHa.out (l.length - (k + 1)) _ _ (by omega) ⟨k + 1, by omega, rfl, (by simp only [go_sem, *]), (by simp only [go_sem, *]), ?_⟩
        rw [HSU.out]
        rw [List.take_length] at cb
        simp only [go_sem, *]
    · obtain rfl : k = l.length := by omega
      repeat' (first
    | (with_reducible apply run_seq)
    | (with_reducible apply run_exit rfl)
    | ((with_reducible apply run_go); simp only [go_sem, *])
    | ((with_reducible apply run_cond_f); (focus (simp only [go_sem, *]; done)))
    | ((with_reducible apply run_ret Try.func40 res40 (H' := H)); (focus (simp only [go_sem, *]; rfl)); (focus trivial); (focus (repeat (first | assumption | exact Heap.sub_refl _ | refine Heap.sub_congr ?_ | refine Heap.sub_set ?_ (by assumption) | refine Heap.sub_set2 ?_ (by first | assumption | (simp only [*]; done) | (simp only [Heap.set_none', ne_eq, *, not_false_eq_true, and_self]; done)))))))
      exact ⟨rfl, rfl⟩
  · rw [if_neg hR]
    rw [Bool.not_eq_true] at hR
    rw [hR] at c1
    repeat' (first
    | (with_reducible apply run_seq)
    | ((with_reducible apply run_go); simp only [go_sem, *])
    | ((with_reducible apply run_cond_t); (focus (simp only [go_sem, *]; done)))
    | ((with_reducible apply runO_callF known43); simp only [go_sem, *]; refine (c1 _).use ?_; (with_reducible apply runO_go); simp only [go_sem, *])
    | ((with_reducible apply run_ret Try.func40 res40 (H' := H)); (focus (simp only [go_sem, *]; rfl)); (focus trivial); (focus (repeat (first | assumption | exact Heap.sub_refl _ | refine Heap.sub_congr ?_ | refine Heap.sub_set ?_ (by assumption) | refine Heap.sub_set2 ?_ (by first | assumption | (simp only [*]; done) | (simp only [Heap.set_none', ne_eq, *, not_false_eq_true, and_self]; done)))))))
    exact ⟨rfl, rfl⟩
end Go.Proofs.Ytobdagjdhgjplaa
