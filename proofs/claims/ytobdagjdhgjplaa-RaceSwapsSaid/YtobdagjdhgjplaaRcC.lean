/-
  Contracts: the races of a row with what a thread does next.
-/
import Derived.Test.YtobdagjdhgjplaaRcA
import Derived.Test.YtobdagjdhgjplaaRcB
set_option linter.unusedSimpArgs false
set_option linter.unusedVariables false
namespace Go.Proofs.Ytobdagjdhgjplaa
open Go Go.Sn Go.RowKit

def cnL (l : List Ev) (k : Nat) : List Int := [(cn l k 0 : Int), (cn l k 1 : Int), (cn l k 2 : Int), (cn l k 3 : Int)]
theorem cnL_0 (l : List Ev) : cnL l 0 = [0, 0, 0, 0] := by unfold cnL; rw [cn_zero, cn_zero, cn_zero, cn_zero]; rfl
theorem cn_le (l : List Ev) (k t : Nat) : cn l k t ≤ l.length := Nat.le_trans (cntT_le _ _) (by rw [List.length_take]; omega)
theorem lastE_length (l : List Ev) (t : Int) : (lastE l t).length = 4 := by
  unfold lastE
  split
  · exact lastU_length l t _ (Nat.le_refl _)
  · rfl

set_option maxRecDepth 100000 in
set_option maxHeartbeats 16000000 in
theorem with_call (W : World) (H : Heap) (l : List Ev) (e : Ev) (h : AllR l) (hl : l.length ≤ 100000) :
    CallA Try.prog W 60 [.list (evsC l), .agg (evC e)] H fun r H' => r = .list (rcsC (racP l e)) ∧ H' = H := by
  refine call_in Try.func60 rfl Try.ntmps60 (by simp) ?_
  have c1 := fun H => last_call W H l e.th hl
  unfold racP
  have hlast := lastE_length l e.th
  obtain ⟨k0, k1, k2, k3, hk⟩ := four_of hlast
  rw [hk] at c1
  simp only [iC_cons, iC_nil] at c1
  repeat' (first
    | (with_reducible apply run_seq)
    | (with_reducible apply run_block)
    | ((with_reducible apply run_go); simp only [go_sem, *])
    | ((with_reducible apply runO_box); (focus (simp only [go_sem, *]; done)); intro pb hpb; have hfb := Heap.ne_of_none hpb; (try simp only [Heap.set_none'] at hpb); (with_reducible apply runO_go); simp only [go_sem, *])
    | ((with_reducible apply runO_alloc); (focus (simp only [go_sem, *]; rfl)); intro pb hpb; have hfb := Heap.ne_of_none hpb; (try simp only [Heap.set_none'] at hpb); (with_reducible apply runO_go); simp only [go_sem, *])
    | ((with_reducible apply runO_store); (focus (simp only [go_sem]; rfl)); (focus (simp only [go_sem, *]; rfl)); (focus (simp only [go_sem, *]; rfl)); (focus (simp only [go_sem, *]; done)); (focus (simp only [go_sem, *]; done)); (focus (simp only [go_sem, *]; done)); (with_reducible apply runO_go); simp only [go_sem, *, Heap.set_set])
    | ((with_reducible apply runO_callF known80); simp only [go_sem, *]; refine (c1 _).use ?_; (with_reducible apply runO_go); simp only [go_sem, *]))
  rename_i p3 hp3 hf3 p5 hf5 hp5
  generalize pb = p6 at *
  have hA : ((H.set p3 (.cells (evC e) 55)).set p5 (.cells [.v (.int .i64 k0), .v (.int .i64 k1), .v (.int .i64 k2), .v (.int .i64 k3)] 111)) p3 = some (.cells (evC e) 55) := by
    rw [Heap.set_other _ _ hp5.1.2, Heap.set_same]
  have hB : ((H.set p3 (.cells (evC e) 55)).set p5 (.cells [.v (.int .i64 k0), .v (.int .i64 k1), .v (.int .i64 k2), .v (.int .i64 k3)] 111)) p5 = some (.cells [.v (.int .i64 k0), .v (.int .i64 k1), .v (.int .i64 k2), .v (.int .i64 k3)] 111) := Heap.set_same _ _ _
  have hsK : H.sub ((H.set p3 (.cells (evC e) 55)).set p5 (.cells [.v (.int .i64 k0), .v (.int .i64 k1), .v (.int .i64 k2), .v (.int .i64 k3)] 111)) := Heap.sub_set (Heap.sub_set (Heap.sub_refl _) hp3) (Heap.set_none'.2 hp5)
  have hK6 : ((H.set p3 (.cells (evC e) 55)).set p5 (.cells [.v (.int .i64 k0), .v (.int .i64 k1), .v (.int .i64 k2), .v (.int .i64 k3)] 111)) p6 = none := Heap.set_none'.2 ⟨hpb.1, Heap.set_none'.2 hpb.2⟩
  generalize (H.set p3 (.cells (evC e) 55)).set p5 (.cells [.v (.int .i64 k0), .v (.int .i64 k1), .v (.int .i64 k2), .v (.int .i64 k3)] 111) = K at *
  obtain ⟨⟨h65, h56⟩, ⟨h63, h36⟩, hp6⟩ := hpb
  clear hf3 hf5 hfb hp5 hp3 c1
  refine run_loop (fun na ea Ha => ∃ (k : Nat), k ≤ l.length ∧ na = l.length - k ∧ ea 3 = .v (.pointer (some ⟨p3, 0, none⟩)) ∧ ea 5 = .v (.pointer (some ⟨p5, 0, none⟩)) ∧ ea 6 = .v (.pointer (some ⟨p6, 0, none⟩)) ∧ ea 13 = .list (evsC l) ∧ ea 14 = .v (.int .i64 (l.length : Int)) ∧ ea 15 = .v (.int .i64 (k : Int)) ∧ Coll (K.set p6 (.cells (iC (cnL l k)) 111)) (74) (2) (rcsC (rcK e.th (wiP l e k))) (ea 4) Ha) (l.length)
      ⟨0, Nat.zero_le _, rfl, (by simp only [go_sem, *]), (by simp only [go_sem, *]), (by simp only [go_sem, *]), (by simp only [go_sem, *]), (by simp only [go_sem, *]), (by simp only [go_sem] <;> rfl), (by simp only [go_sem]; exact (by rw [cnL_0]; exact .none rfl))⟩ ?_
  rintro na ea Ha ih ⟨k, ak, rfl, as3, as5, as6, as13, as14, as15, ca⟩
  generalize hac : ea 4 = da at ca
  have IHa : Hid _ := ih
  clear ih
  have hsubB := ca.sub
  have q3 : Ha p3 = some (.cells (evC e) 55) := hsubB _ _ (by rw [Heap.set_other _ _ h36]; exact hA)
  have q5 : Ha p5 = some (.cells [.v (.int .i64 k0), .v (.int .i64 k1), .v (.int .i64 k2), .v (.int .i64 k3)] 111) := hsubB _ _ (by rw [Heap.set_other _ _ h56]; exact hB)
  have q6 : Ha p6 = some (.cells (iC (cnL l k)) 111) := hsubB _ _ (Heap.set_same _ _ _)
  by_cases hlt : k < l.length
  · have hw := wrap_succ (k := k) (by omega)
    have hth := thN_lt h hlt
    have hn0 := cn_succ h hlt 0
    have hn1 := cn_succ h hlt 1
    have hn2 := cn_succ h hlt 2
    have hn3 := cn_succ h hlt 3
    have hb0 := cn_le l k 0
    have hb1 := cn_le l k 1
    have hb2 := cn_le l k 2
    have hb3 := cn_le l k 3
    have w0 : IntKind.i64.wrap ((cn l k 0 : Int) + 1) = (cn l k 0 : Int) + 1 := wrapP (by omega) (by omega)
    have w1 : IntKind.i64.wrap ((cn l k 1 : Int) + 1) = (cn l k 1 : Int) + 1 := wrapP (by omega) (by omega)
    have w2 : IntKind.i64.wrap ((cn l k 2 : Int) + 1) = (cn l k 2 : Int) + 1 := wrapP (by omega) (by omega)
    have w3 : IntKind.i64.wrap ((cn l k 3 : Int) + 1) = (cn l k 3 : Int) + 1 := wrapP (by omega) (by omega)
    have hsu := wiP_succ l e k
    have hcd : cndP l e k = (!decide ((l.getD k default).th = e.th) && depE (l.getD k default) e && decide (([k0, k1, k2, k3] : List Int).getD (thN l k) 0 < (cn l (k + 1) (thN l k) : Int))) := by unfold cndP; rw [hk]
    have hwl := wiP_len l e k
    have hwl2 := rcK_len e.th (wiP l e k)
    have dp := fun H => dep_call W H (l.getD k default) e
    unfold cnL at q6
    simp only [iC_cons, iC_nil] at q6
    generalize hx : l.getD k default = x at *
    obtain ⟨xt, xk, xo, xf⟩ := x
    simp only at hth
    obtain hj | hj | hj | hj : thN l k = 0 ∨ thN l k = 1 ∨ thN l k = 2 ∨ thN l k = 3 := by omega
    · obtain rfl : xt = 0 := by rw [hj] at hth; omega
      rw [hj] at hcd
      simp only [hj, Nat.reduceEqDiff, if_true, if_false, Nat.add_zero] at hn0 hn1 hn2 hn3
      have hN : cnL l (k + 1) = (cnL l k).set 0 ((cn l k 0 : Int) + 1) := by unfold cnL; rw [hn0, hn1, hn2, hn3]; rfl
      have hN' := congrArg iC hN
      rw [hn0] at hcd
      simp only [List.getD_cons_zero, List.getD_cons_succ, Int.natCast_add, Int.cast_ofNat_Int] at hcd
      have hcs := coll_set (r := .cells (iC (cnL l (k + 1))) 111) ca (Heap.set_same _ _ _)
      rw [Heap.set_set] at hcs
      generalize hcn : cnL l (k + 1) = C at *
      simp only [cnL, List.set_cons_zero, List.set_cons_succ, iC_cons, iC_nil] at hN'
      have HN : Hid _ := hN'
      have HCN : Hid _ := hcn
      have HCS : Hid _ := hcs
      have HSU : Hid _ := hsu
      have HCD : Hid _ := hcd
      clear hN hN' hcn hcs hsu hcd hn0 hn1 hn2 hn3 hb0 hb1 hb2 hb3 hth hj
      by_cases h1 : e.th = 0
      · have hs := HSU.out
        rw [HCD.out, decide_eq_true h1.symm] at hs
        simp only [Bool.not_true, Bool.false_and, Bool.false_eq_true, if_false] at hs
        have HS : Hid _ := hs
        clear hs HSU HCD ca
        obtain ⟨et, ek, eo, ef⟩ := e
        obtain rfl : et = 0 := h1
        repeat' (first
    | (with_reducible apply run_seq)
    | (with_reducible apply run_block)
    | (with_reducible apply run_inBlock)
    | (with_reducible apply run_skip)
    | ((with_reducible apply run_go); simp only [go_sem, *])
    | ((with_reducible apply run_drawGo Cl.zero Cl.zero_plain mixed); (focus kernel_rfl); simp only [go_sem, *])
    | ((with_reducible apply run_cond_t); (focus (simp only [go_sem, *]; done)))
    | ((with_reducible apply run_cond_f); (focus (simp only [go_sem, *]; done)))
    | ((with_reducible apply runO_alloc); (focus (simp only [go_sem, *]; rfl)); intro pb hpb; have hfb := Heap.ne_of_none hpb; (try simp only [Heap.set_none'] at hpb); (with_reducible apply runO_go); simp only [go_sem, *])
    | ((with_reducible apply runO_store); (focus (simp only [go_sem]; rfl)); (focus (simp only [go_sem, *]; rfl)); (focus (simp only [go_sem, *]; rfl)); (focus (simp only [go_sem, *]; done)); (focus (simp only [go_sem, *]; done)); (focus (simp only [go_sem, *]; done)); (with_reducible apply runO_go); simp only [go_sem, *, Heap.set_set])
    | ((with_reducible apply runD_skipF); (focus rfl); (focus (simp only [go_sem, *]; rfl)); (focus rfl); (with_reducible first | apply runD_go Cl.zero_plain | apply runD_goC); simp only [go_sem, *]))
        refine run_drop (H' := Ha.set p6 (.cells (iC C) 111)) (by rw [HN.out]; (repeat (first | assumption | exact Heap.sub_refl _ | refine Heap.sub_congr ?_ | refine Heap.sub_set ?_ (by assumption) | refine Heap.sub_set2 ?_ (by first | assumption | (simp only [*]; done) | (simp only [Heap.set_none', ne_eq, *, not_false_eq_true, and_self]; done)))); done) ?_
        refine IHa.out (l.length - (k + 1)) _ _ (by omega) ⟨k + 1, by omega, rfl, (by simp only [go_sem, *]), (by simp only [go_sem, *]), (by simp only [go_sem, *]), (by simp only [go_sem, *]), (by simp only [go_sem, *]), (by simp only [go_sem, *]), ?_⟩
        rw [HCN.out, HS.out]
        simp only [go_sem, *]
        exact HCS.out
      · have hs := HSU.out
        have h1n : ¬ (0 : Int) = e.th := fun e => h1 e.symm
        rw [HCD.out, decide_eq_false h1n] at hs
        have HS : Hid _ := hs
        clear hs HSU HCD ca
        generalize depE ⟨0, xk, xo, xf⟩ e = q at *
        cases q with
        | false =>
          have hs := HS.out
          simp only [Bool.and_false, Bool.false_and, Bool.false_eq_true, if_false] at hs
          have HS2 : Hid _ := hs
          clear hs HS
          repeat' (first
    | (with_reducible apply run_seq)
    | (with_reducible apply run_block)
    | (with_reducible apply run_inBlock)
    | (with_reducible apply run_skip)
    | ((with_reducible apply run_go); simp only [go_sem, *])
    | ((with_reducible apply run_drawGo Cl.zero Cl.zero_plain mixed); (focus kernel_rfl); simp only [go_sem, *])
    | ((with_reducible apply run_cond_t); (focus (simp only [go_sem, *]; done)))
    | ((with_reducible apply run_cond_f); (focus (simp only [go_sem, *]; done)))
    | ((with_reducible apply runO_alloc); (focus (simp only [go_sem, *]; rfl)); intro pb hpb; have hfb := Heap.ne_of_none hpb; (try simp only [Heap.set_none'] at hpb); (with_reducible apply runO_go); simp only [go_sem, *])
    | ((with_reducible apply runO_store); (focus (simp only [go_sem]; rfl)); (focus (simp only [go_sem, *]; rfl)); (focus (simp only [go_sem, *]; rfl)); (focus (simp only [go_sem, *]; done)); (focus (simp only [go_sem, *]; done)); (focus (simp only [go_sem, *]; done)); (with_reducible apply runO_go); simp only [go_sem, *, Heap.set_set])
    | ((with_reducible apply runD_callFG known32); (focus exact ⟨rfl, rfl⟩); (focus (simp only [go_sem, *]; rfl)); (focus (intro _; simp only [go_sem, *]; exact dp _)); (with_reducible first | apply runD_go Cl.zero_plain | apply runD_goC); simp only [go_sem, *]))
          refine run_drop (H' := Ha.set p6 (.cells (iC C) 111)) (by rw [HN.out]; (repeat (first | assumption | exact Heap.sub_refl _ | refine Heap.sub_congr ?_ | refine Heap.sub_set ?_ (by assumption) | refine Heap.sub_set2 ?_ (by first | assumption | (simp only [*]; done) | (simp only [Heap.set_none', ne_eq, *, not_false_eq_true, and_self]; done)))); done) ?_
          refine IHa.out (l.length - (k + 1)) _ _ (by omega) ⟨k + 1, by omega, rfl, (by simp only [go_sem, *]), (by simp only [go_sem, *]), (by simp only [go_sem, *]), (by simp only [go_sem, *]), (by simp only [go_sem, *]), (by simp only [go_sem, *]), ?_⟩
          rw [HCN.out, HS2.out]
          simp only [go_sem, *]
          exact HCS.out
        | true =>
          repeat' (first
    | (with_reducible apply run_seq)
    | (with_reducible apply run_block)
    | (with_reducible apply run_inBlock)
    | (with_reducible apply run_skip)
    | ((with_reducible apply run_go); simp only [go_sem, *])
    | ((with_reducible apply run_drawGo Cl.zero Cl.zero_plain mixed); (focus kernel_rfl); simp only [go_sem, *])
    | ((with_reducible apply run_cond_t); (focus (simp only [go_sem, *]; done)))
    | ((with_reducible apply run_cond); (focus (simp only [go_sem, *]; rfl)); (all_goals intro _))
    | ((with_reducible apply runO_alloc); (focus (simp only [go_sem, *]; rfl)); intro pb hpb; have hfb := Heap.ne_of_none hpb; (try simp only [Heap.set_none'] at hpb); (with_reducible apply runO_go); simp only [go_sem, *])
    | ((with_reducible apply runO_store); (focus (simp only [go_sem]; rfl)); (focus (simp only [go_sem, *]; rfl)); (focus (simp only [go_sem, *]; rfl)); (focus (simp only [go_sem, *]; done)); (focus (simp only [go_sem, *]; done)); (focus (simp only [go_sem, *]; done)); (with_reducible apply runO_go); simp only [go_sem, *, Heap.set_set])
    | ((with_reducible apply runD_callFG known32); (focus exact ⟨rfl, rfl⟩); (focus (simp only [go_sem, *]; rfl)); (focus (intro _; simp only [go_sem, *]; exact dp _)); (with_reducible first | apply runD_go Cl.zero_plain | apply runD_goC); simp only [go_sem, *])
    | ((with_reducible apply runO_buildSlice); (focus (simp only [go_sem]; rfl)); (focus (simp only [go_sem]; rfl)); (focus (simp only [go_sem]; rfl)); (focus rfl); (focus rfl); (focus (simp only [go_sem, *]; done)); (focus (simp only [go_sem, *]; done)); (focus decide); (with_reducible apply runO_go); simp only [go_sem, *]))
          · rename_i h3
            have hs := HS.out
            rw [h3] at hs
            simp only [Bool.not_false, Bool.and_self, if_true] at hs
            have HS2 : Hid _ := hs
            clear hs HS
            refine runO_drop (H' := Ha.set p6 (.cells (iC C) 111)) (by rw [HN.out]; (repeat (first | assumption | exact Heap.sub_refl _ | refine Heap.sub_congr ?_ | refine Heap.sub_set ?_ (by assumption) | refine Heap.sub_set2 ?_ (by first | assumption | (simp only [*]; done) | (simp only [Heap.set_none', ne_eq, *, not_false_eq_true, and_self]; done)))); done) ?_
            have hcs := HCS.out
            (refine runO_coll (t := 66) Try.underlying66 sz74 by74 zr74 rfl (by simp only [go_sem, *]; exact hcs) (by simp only [go_sem, *]; rfl) (rcsC_all _) (by simp) (by (try simp only [List.length_range, List.length_map, List.length_take, List.length_cons, List.length_nil, List.length_append, go_sem]); omega) (by (try simp only [maxLen, List.length_range, List.length_map, List.length_take, List.length_cons, List.length_nil, List.length_append, go_sem]); omega) (fun d1 H1 hc1 => ?_); (with_reducible apply runO_go); simp only [go_sem, *])
            repeat' (first
    | (with_reducible apply run_inBlock)
    | ((with_reducible apply run_go); simp only [go_sem, *]))
            refine IHa.out (l.length - (k + 1)) _ _ (by omega) ⟨k + 1, by omega, rfl, (by simp only [go_sem, *]), (by simp only [go_sem, *]), (by simp only [go_sem, *]), (by simp only [go_sem, *]), (by simp only [go_sem, *]), (by simp only [go_sem, *]), ?_⟩
            simp only [go_sem]
            rw [HCN.out, HS2.out, rcK_snoc, rcsC_snoc]
            exact hc1
          · rename_i h3
            have hs := HS.out
            rw [h3] at hs
            simp only [Bool.and_false, Bool.false_eq_true, if_false] at hs
            have HS2 : Hid _ := hs
            clear hs HS
            refine run_drop (H' := Ha.set p6 (.cells (iC C) 111)) (by rw [HN.out]; (repeat (first | assumption | exact Heap.sub_refl _ | refine Heap.sub_congr ?_ | refine Heap.sub_set ?_ (by assumption) | refine Heap.sub_set2 ?_ (by first | assumption | (simp only [*]; done) | (simp only [Heap.set_none', ne_eq, *, not_false_eq_true, and_self]; done)))); done) ?_
            refine IHa.out (l.length - (k + 1)) _ _ (by omega) ⟨k + 1, by omega, rfl, (by simp only [go_sem, *]), (by simp only [go_sem, *]), (by simp only [go_sem, *]), (by simp only [go_sem, *]), (by simp only [go_sem, *]), (by simp only [go_sem, *]), ?_⟩
            rw [HCN.out, HS2.out]
            simp only [go_sem, *]
            exact HCS.out
    · obtain rfl : xt = 1 := by rw [hj] at hth; omega
      rw [hj] at hcd
      simp only [hj, Nat.reduceEqDiff, if_true, if_false, Nat.add_zero] at hn0 hn1 hn2 hn3
      have hN : cnL l (k + 1) = (cnL l k).set 1 ((cn l k 1 : Int) + 1) := by unfold cnL; rw [hn0, hn1, hn2, hn3]; rfl
      have hN' := congrArg iC hN
      rw [hn1] at hcd
      simp only [List.getD_cons_zero, List.getD_cons_succ, Int.natCast_add, Int.cast_ofNat_Int] at hcd
      have hcs := coll_set (r := .cells (iC (cnL l (k + 1))) 111) ca (Heap.set_same _ _ _)
      rw [Heap.set_set] at hcs
      generalize hcn : cnL l (k + 1) = C at *
      simp only [cnL, List.set_cons_zero, List.set_cons_succ, iC_cons, iC_nil] at hN'
      have HN : Hid _ := hN'
      have HCN : Hid _ := hcn
      have HCS : Hid _ := hcs
      have HSU : Hid _ := hsu
      have HCD : Hid _ := hcd
      clear hN hN' hcn hcs hsu hcd hn0 hn1 hn2 hn3 hb0 hb1 hb2 hb3 hth hj
      by_cases h1 : e.th = 1
      · have hs := HSU.out
        rw [HCD.out, decide_eq_true h1.symm] at hs
        simp only [Bool.not_true, Bool.false_and, Bool.false_eq_true, if_false] at hs
        have HS : Hid _ := hs
        clear hs HSU HCD ca
        obtain ⟨et, ek, eo, ef⟩ := e
        obtain rfl : et = 1 := h1
        repeat' (first
    | (with_reducible apply run_seq)
    | (with_reducible apply run_block)
    | (with_reducible apply run_inBlock)
    | (with_reducible apply run_skip)
    | ((with_reducible apply run_go); simp only [go_sem, *])
    | ((with_reducible apply run_drawGo Cl.zero Cl.zero_plain mixed); (focus kernel_rfl); simp only [go_sem, *])
    | ((with_reducible apply run_cond_t); (focus (simp only [go_sem, *]; done)))
    | ((with_reducible apply run_cond_f); (focus (simp only [go_sem, *]; done)))
    | ((with_reducible apply runO_alloc); (focus (simp only [go_sem, *]; rfl)); intro pb hpb; have hfb := Heap.ne_of_none hpb; (try simp only [Heap.set_none'] at hpb); (with_reducible apply runO_go); simp only [go_sem, *])
    | ((with_reducible apply runO_store); (focus (simp only [go_sem]; rfl)); (focus (simp only [go_sem, *]; rfl)); (focus (simp only [go_sem, *]; rfl)); (focus (simp only [go_sem, *]; done)); (focus (simp only [go_sem, *]; done)); (focus (simp only [go_sem, *]; done)); (with_reducible apply runO_go); simp only [go_sem, *, Heap.set_set])
    | ((with_reducible apply runD_skipF); (focus rfl); (focus (simp only [go_sem, *]; rfl)); (focus rfl); (with_reducible first | apply runD_go Cl.zero_plain | apply runD_goC); simp only [go_sem, *]))
        refine run_drop (H' := Ha.set p6 (.cells (iC C) 111)) (by rw [HN.out]; (repeat (first | assumption | exact Heap.sub_refl _ | refine Heap.sub_congr ?_ | refine Heap.sub_set ?_ (by assumption) | refine Heap.sub_set2 ?_ (by first | assumption | (simp only [*]; done) | (simp only [Heap.set_none', ne_eq, *, not_false_eq_true, and_self]; done)))); done) ?_
        refine IHa.out (l.length - (k + 1)) _ _ (by omega) ⟨k + 1, by omega, rfl, (by simp only [go_sem, *]), (by simp only [go_sem, *]), (by simp only [go_sem, *]), (by simp only [go_sem, *]), (by simp only [go_sem, *]), (by simp only [go_sem, *]), ?_⟩
        rw [HCN.out, HS.out]
        simp only [go_sem, *]
        exact HCS.out
      · have hs := HSU.out
        have h1n : ¬ (1 : Int) = e.th := fun e => h1 e.symm
        rw [HCD.out, decide_eq_false h1n] at hs
        have HS : Hid _ := hs
        clear hs HSU HCD ca
        generalize depE ⟨1, xk, xo, xf⟩ e = q at *
        cases q with
        | false =>
          have hs := HS.out
          simp only [Bool.and_false, Bool.false_and, Bool.false_eq_true, if_false] at hs
          have HS2 : Hid _ := hs
          clear hs HS
          repeat' (first
    | (with_reducible apply run_seq)
    | (with_reducible apply run_block)
    | (with_reducible apply run_inBlock)
    | (with_reducible apply run_skip)
    | ((with_reducible apply run_go); simp only [go_sem, *])
    | ((with_reducible apply run_drawGo Cl.zero Cl.zero_plain mixed); (focus kernel_rfl); simp only [go_sem, *])
    | ((with_reducible apply run_cond_t); (focus (simp only [go_sem, *]; done)))
    | ((with_reducible apply run_cond_f); (focus (simp only [go_sem, *]; done)))
    | ((with_reducible apply runO_alloc); (focus (simp only [go_sem, *]; rfl)); intro pb hpb; have hfb := Heap.ne_of_none hpb; (try simp only [Heap.set_none'] at hpb); (with_reducible apply runO_go); simp only [go_sem, *])
    | ((with_reducible apply runO_store); (focus (simp only [go_sem]; rfl)); (focus (simp only [go_sem, *]; rfl)); (focus (simp only [go_sem, *]; rfl)); (focus (simp only [go_sem, *]; done)); (focus (simp only [go_sem, *]; done)); (focus (simp only [go_sem, *]; done)); (with_reducible apply runO_go); simp only [go_sem, *, Heap.set_set])
    | ((with_reducible apply runD_callFG known32); (focus exact ⟨rfl, rfl⟩); (focus (simp only [go_sem, *]; rfl)); (focus (intro _; simp only [go_sem, *]; exact dp _)); (with_reducible first | apply runD_go Cl.zero_plain | apply runD_goC); simp only [go_sem, *]))
          refine run_drop (H' := Ha.set p6 (.cells (iC C) 111)) (by rw [HN.out]; (repeat (first | assumption | exact Heap.sub_refl _ | refine Heap.sub_congr ?_ | refine Heap.sub_set ?_ (by assumption) | refine Heap.sub_set2 ?_ (by first | assumption | (simp only [*]; done) | (simp only [Heap.set_none', ne_eq, *, not_false_eq_true, and_self]; done)))); done) ?_
          refine IHa.out (l.length - (k + 1)) _ _ (by omega) ⟨k + 1, by omega, rfl, (by simp only [go_sem, *]), (by simp only [go_sem, *]), (by simp only [go_sem, *]), (by simp only [go_sem, *]), (by simp only [go_sem, *]), (by simp only [go_sem, *]), ?_⟩
          rw [HCN.out, HS2.out]
          simp only [go_sem, *]
          exact HCS.out
        | true =>
          repeat' (first
    | (with_reducible apply run_seq)
    | (with_reducible apply run_block)
    | (with_reducible apply run_inBlock)
    | (with_reducible apply run_skip)
    | ((with_reducible apply run_go); simp only [go_sem, *])
    | ((with_reducible apply run_drawGo Cl.zero Cl.zero_plain mixed); (focus kernel_rfl); simp only [go_sem, *])
    | ((with_reducible apply run_cond_t); (focus (simp only [go_sem, *]; done)))
    | ((with_reducible apply run_cond); (focus (simp only [go_sem, *]; rfl)); (all_goals intro _))
    | ((with_reducible apply runO_alloc); (focus (simp only [go_sem, *]; rfl)); intro pb hpb; have hfb := Heap.ne_of_none hpb; (try simp only [Heap.set_none'] at hpb); (with_reducible apply runO_go); simp only [go_sem, *])
    | ((with_reducible apply runO_store); (focus (simp only [go_sem]; rfl)); (focus (simp only [go_sem, *]; rfl)); (focus (simp only [go_sem, *]; rfl)); (focus (simp only [go_sem, *]; done)); (focus (simp only [go_sem, *]; done)); (focus (simp only [go_sem, *]; done)); (with_reducible apply runO_go); simp only [go_sem, *, Heap.set_set])
    | ((with_reducible apply runD_callFG known32); (focus exact ⟨rfl, rfl⟩); (focus (simp only [go_sem, *]; rfl)); (focus (intro _; simp only [go_sem, *]; exact dp _)); (with_reducible first | apply runD_go Cl.zero_plain | apply runD_goC); simp only [go_sem, *])
    | ((with_reducible apply runO_buildSlice); (focus (simp only [go_sem]; rfl)); (focus (simp only [go_sem]; rfl)); (focus (simp only [go_sem]; rfl)); (focus rfl); (focus rfl); (focus (simp only [go_sem, *]; done)); (focus (simp only [go_sem, *]; done)); (focus decide); (with_reducible apply runO_go); simp only [go_sem, *]))
          · rename_i h3
            have hs := HS.out
            rw [h3] at hs
            simp only [Bool.not_false, Bool.and_self, if_true] at hs
            have HS2 : Hid _ := hs
            clear hs HS
            refine runO_drop (H' := Ha.set p6 (.cells (iC C) 111)) (by rw [HN.out]; (repeat (first | assumption | exact Heap.sub_refl _ | refine Heap.sub_congr ?_ | refine Heap.sub_set ?_ (by assumption) | refine Heap.sub_set2 ?_ (by first | assumption | (simp only [*]; done) | (simp only [Heap.set_none', ne_eq, *, not_false_eq_true, and_self]; done)))); done) ?_
            have hcs := HCS.out
            (refine runO_coll (t := 66) Try.underlying66 sz74 by74 zr74 rfl (by simp only [go_sem, *]; exact hcs) (by simp only [go_sem, *]; rfl) (rcsC_all _) (by simp) (by (try simp only [List.length_range, List.length_map, List.length_take, List.length_cons, List.length_nil, List.length_append, go_sem]); omega) (by (try simp only [maxLen, List.length_range, List.length_map, List.length_take, List.length_cons, List.length_nil, List.length_append, go_sem]); omega) (fun d1 H1 hc1 => ?_); (with_reducible apply runO_go); simp only [go_sem, *])
            repeat' (first
    | (with_reducible apply run_inBlock)
    | ((with_reducible apply run_go); simp only [go_sem, *]))
            refine IHa.out (l.length - (k + 1)) _ _ (by omega) ⟨k + 1, by omega, rfl, (by simp only [go_sem, *]), (by simp only [go_sem, *]), (by simp only [go_sem, *]), (by simp only [go_sem, *]), (by simp only [go_sem, *]), (by simp only [go_sem, *]), ?_⟩
            simp only [go_sem]
            rw [HCN.out, HS2.out, rcK_snoc, rcsC_snoc]
            exact hc1
          · rename_i h3
            have hs := HS.out
            rw [h3] at hs
            simp only [Bool.and_false, Bool.false_eq_true, if_false] at hs
            have HS2 : Hid _ := hs
            clear hs HS
            refine run_drop (H' := Ha.set p6 (.cells (iC C) 111)) (by rw [HN.out]; (repeat (first | assumption | exact Heap.sub_refl _ | refine Heap.sub_congr ?_ | refine Heap.sub_set ?_ (by assumption) | refine Heap.sub_set2 ?_ (by first | assumption | (simp only [*]; done) | (simp only [Heap.set_none', ne_eq, *, not_false_eq_true, and_self]; done)))); done) ?_
            refine IHa.out (l.length - (k + 1)) _ _ (by omega) ⟨k + 1, by omega, rfl, (by simp only [go_sem, *]), (by simp only [go_sem, *]), (by simp only [go_sem, *]), (by simp only [go_sem, *]), (by simp only [go_sem, *]), (by simp only [go_sem, *]), ?_⟩
            rw [HCN.out, HS2.out]
            simp only [go_sem, *]
            exact HCS.out
    · obtain rfl : xt = 2 := by rw [hj] at hth; omega
      rw [hj] at hcd
      simp only [hj, Nat.reduceEqDiff, if_true, if_false, Nat.add_zero] at hn0 hn1 hn2 hn3
      have hN : cnL l (k + 1) = (cnL l k).set 2 ((cn l k 2 : Int) + 1) := by unfold cnL; rw [hn0, hn1, hn2, hn3]; rfl
      have hN' := congrArg iC hN
      rw [hn2] at hcd
      simp only [List.getD_cons_zero, List.getD_cons_succ, Int.natCast_add, Int.cast_ofNat_Int] at hcd
      have hcs := coll_set (r := .cells (iC (cnL l (k + 1))) 111) ca (Heap.set_same _ _ _)
      rw [Heap.set_set] at hcs
      generalize hcn : cnL l (k + 1) = C at *
      simp only [cnL, List.set_cons_zero, List.set_cons_succ, iC_cons, iC_nil] at hN'
      have HN : Hid _ := hN'
      have HCN : Hid _ := hcn
      have HCS : Hid _ := hcs
      have HSU : Hid _ := hsu
      have HCD : Hid _ := hcd
      clear hN hN' hcn hcs hsu hcd hn0 hn1 hn2 hn3 hb0 hb1 hb2 hb3 hth hj
      by_cases h1 : e.th = 2
      · have hs := HSU.out
        rw [HCD.out, decide_eq_true h1.symm] at hs
        simp only [Bool.not_true, Bool.false_and, Bool.false_eq_true, if_false] at hs
        have HS : Hid _ := hs
        clear hs HSU HCD ca
        obtain ⟨et, ek, eo, ef⟩ := e
        obtain rfl : et = 2 := h1
        repeat' (first
    | (with_reducible apply run_seq)
    | (with_reducible apply run_block)
    | (with_reducible apply run_inBlock)
    | (with_reducible apply run_skip)
    | ((with_reducible apply run_go); simp only [go_sem, *])
    | ((with_reducible apply run_drawGo Cl.zero Cl.zero_plain mixed); (focus kernel_rfl); simp only [go_sem, *])
    | ((with_reducible apply run_cond_t); (focus (simp only [go_sem, *]; done)))
    | ((with_reducible apply run_cond_f); (focus (simp only [go_sem, *]; done)))
    | ((with_reducible apply runO_alloc); (focus (simp only [go_sem, *]; rfl)); intro pb hpb; have hfb := Heap.ne_of_none hpb; (try simp only [Heap.set_none'] at hpb); (with_reducible apply runO_go); simp only [go_sem, *])
    | ((with_reducible apply runO_store); (focus (simp only [go_sem]; rfl)); (focus (simp only [go_sem, *]; rfl)); (focus (simp only [go_sem, *]; rfl)); (focus (simp only [go_sem, *]; done)); (focus (simp only [go_sem, *]; done)); (focus (simp only [go_sem, *]; done)); (with_reducible apply runO_go); simp only [go_sem, *, Heap.set_set])
    | ((with_reducible apply runD_skipF); (focus rfl); (focus (simp only [go_sem, *]; rfl)); (focus rfl); (with_reducible first | apply runD_go Cl.zero_plain | apply runD_goC); simp only [go_sem, *]))
        refine run_drop (H' := Ha.set p6 (.cells (iC C) 111)) (by rw [HN.out]; (repeat (first | assumption | exact Heap.sub_refl _ | refine Heap.sub_congr ?_ | refine Heap.sub_set ?_ (by assumption) | refine Heap.sub_set2 ?_ (by first | assumption | (simp only [*]; done) | (simp only [Heap.set_none', ne_eq, *, not_false_eq_true, and_self]; done)))); done) ?_
        refine IHa.out (l.length - (k + 1)) _ _ (by omega) ⟨k + 1, by omega, rfl, (by simp only [go_sem, *]), (by simp only [go_sem, *]), (by simp only [go_sem, *]), (by simp only [go_sem, *]), (by simp only [go_sem, *]), (by simp only [go_sem, *]), ?_⟩
        rw [HCN.out, HS.out]
        simp only [go_sem, *]
        exact HCS.out
      · have hs := HSU.out
        have h1n : ¬ (2 : Int) = e.th := fun e => h1 e.symm
        rw [HCD.out, decide_eq_false h1n] at hs
        have HS : Hid _ := hs
        clear hs HSU HCD ca
        generalize depE ⟨2, xk, xo, xf⟩ e = q at *
        cases q with
        | false =>
          have hs := HS.out
          simp only [Bool.and_false, Bool.false_and, Bool.false_eq_true, if_false] at hs
          have HS2 : Hid _ := hs
          clear hs HS
          repeat' (first
    | (with_reducible apply run_seq)
    | (with_reducible apply run_block)
    | (with_reducible apply run_inBlock)
    | (with_reducible apply run_skip)
    | ((with_reducible apply run_go); simp only [go_sem, *])
    | ((with_reducible apply run_drawGo Cl.zero Cl.zero_plain mixed); (focus kernel_rfl); simp only [go_sem, *])
    | ((with_reducible apply run_cond_t); (focus (simp only [go_sem, *]; done)))
    | ((with_reducible apply run_cond_f); (focus (simp only [go_sem, *]; done)))
    | ((with_reducible apply runO_alloc); (focus (simp only [go_sem, *]; rfl)); intro pb hpb; have hfb := Heap.ne_of_none hpb; (try simp only [Heap.set_none'] at hpb); (with_reducible apply runO_go); simp only [go_sem, *])
    | ((with_reducible apply runO_store); (focus (simp only [go_sem]; rfl)); (focus (simp only [go_sem, *]; rfl)); (focus (simp only [go_sem, *]; rfl)); (focus (simp only [go_sem, *]; done)); (focus (simp only [go_sem, *]; done)); (focus (simp only [go_sem, *]; done)); (with_reducible apply runO_go); simp only [go_sem, *, Heap.set_set])
    | ((with_reducible apply runD_callFG known32); (focus exact ⟨rfl, rfl⟩); (focus (simp only [go_sem, *]; rfl)); (focus (intro _; simp only [go_sem, *]; exact dp _)); (with_reducible first | apply runD_go Cl.zero_plain | apply runD_goC); simp only [go_sem, *]))
          refine run_drop (H' := Ha.set p6 (.cells (iC C) 111)) (by rw [HN.out]; (repeat (first | assumption | exact Heap.sub_refl _ | refine Heap.sub_congr ?_ | refine Heap.sub_set ?_ (by assumption) | refine Heap.sub_set2 ?_ (by first | assumption | (simp only [*]; done) | (simp only [Heap.set_none', ne_eq, *, not_false_eq_true, and_self]; done)))); done) ?_
          refine IHa.out (l.length - (k + 1)) _ _ (by omega) ⟨k + 1, by omega, rfl, (by simp only [go_sem, *]), (by simp only [go_sem, *]), (by simp only [go_sem, *]), (by simp only [go_sem, *]), (by simp only [go_sem, *]), (by simp only [go_sem, *]), ?_⟩
          rw [HCN.out, HS2.out]
          simp only [go_sem, *]
          exact HCS.out
        | true =>
          repeat' (first
    | (with_reducible apply run_seq)
    | (with_reducible apply run_block)
    | (with_reducible apply run_inBlock)
    | (with_reducible apply run_skip)
    | ((with_reducible apply run_go); simp only [go_sem, *])
    | ((with_reducible apply run_drawGo Cl.zero Cl.zero_plain mixed); (focus kernel_rfl); simp only [go_sem, *])
    | ((with_reducible apply run_cond_t); (focus (simp only [go_sem, *]; done)))
    | ((with_reducible apply run_cond); (focus (simp only [go_sem, *]; rfl)); (all_goals intro _))
    | ((with_reducible apply runO_alloc); (focus (simp only [go_sem, *]; rfl)); intro pb hpb; have hfb := Heap.ne_of_none hpb; (try simp only [Heap.set_none'] at hpb); (with_reducible apply runO_go); simp only [go_sem, *])
    | ((with_reducible apply runO_store); (focus (simp only [go_sem]; rfl)); (focus (simp only [go_sem, *]; rfl)); (focus (simp only [go_sem, *]; rfl)); (focus (simp only [go_sem, *]; done)); (focus (simp only [go_sem, *]; done)); (focus (simp only [go_sem, *]; done)); (with_reducible apply runO_go); simp only [go_sem, *, Heap.set_set])
    | ((with_reducible apply runD_callFG known32); (focus exact ⟨rfl, rfl⟩); (focus (simp only [go_sem, *]; rfl)); (focus (intro _; simp only [go_sem, *]; exact dp _)); (with_reducible first | apply runD_go Cl.zero_plain | apply runD_goC); simp only [go_sem, *])
    | ((with_reducible apply runO_buildSlice); (focus (simp only [go_sem]; rfl)); (focus (simp only [go_sem]; rfl)); (focus (simp only [go_sem]; rfl)); (focus rfl); (focus rfl); (focus (simp only [go_sem, *]; done)); (focus (simp only [go_sem, *]; done)); (focus decide); (with_reducible apply runO_go); simp only [go_sem, *]))
          · rename_i h3
            have hs := HS.out
            rw [h3] at hs
            simp only [Bool.not_false, Bool.and_self, if_true] at hs
            have HS2 : Hid _ := hs
            clear hs HS
            refine runO_drop (H' := Ha.set p6 (.cells (iC C) 111)) (by rw [HN.out]; (repeat (first | assumption | exact Heap.sub_refl _ | refine Heap.sub_congr ?_ | refine Heap.sub_set ?_ (by assumption) | refine Heap.sub_set2 ?_ (by first | assumption | (simp only [*]; done) | (simp only [Heap.set_none', ne_eq, *, not_false_eq_true, and_self]; done)))); done) ?_
            have hcs := HCS.out
            (refine runO_coll (t := 66) Try.underlying66 sz74 by74 zr74 rfl (by simp only [go_sem, *]; exact hcs) (by simp only [go_sem, *]; rfl) (rcsC_all _) (by simp) (by (try simp only [List.length_range, List.length_map, List.length_take, List.length_cons, List.length_nil, List.length_append, go_sem]); omega) (by (try simp only [maxLen, List.length_range, List.length_map, List.length_take, List.length_cons, List.length_nil, List.length_append, go_sem]); omega) (fun d1 H1 hc1 => ?_); (with_reducible apply runO_go); simp only [go_sem, *])
            repeat' (first
    | (with_reducible apply run_inBlock)
    | ((with_reducible apply run_go); simp only [go_sem, *]))
            refine IHa.out (l.length - (k + 1)) _ _ (by omega) ⟨k + 1, by omega, rfl, (by simp only [go_sem, *]), (by simp only [go_sem, *]), (by simp only [go_sem, *]), (by simp only [go_sem, *]), (by simp only [go_sem, *]), (by simp only [go_sem, *]), ?_⟩
            simp only [go_sem]
            rw [HCN.out, HS2.out, rcK_snoc, rcsC_snoc]
            exact hc1
          · rename_i h3
            have hs := HS.out
            rw [h3] at hs
            simp only [Bool.and_false, Bool.false_eq_true, if_false] at hs
            have HS2 : Hid _ := hs
            clear hs HS
            refine run_drop (H' := Ha.set p6 (.cells (iC C) 111)) (by rw [HN.out]; (repeat (first | assumption | exact Heap.sub_refl _ | refine Heap.sub_congr ?_ | refine Heap.sub_set ?_ (by assumption) | refine Heap.sub_set2 ?_ (by first | assumption | (simp only [*]; done) | (simp only [Heap.set_none', ne_eq, *, not_false_eq_true, and_self]; done)))); done) ?_
            refine IHa.out (l.length - (k + 1)) _ _ (by omega) ⟨k + 1, by omega, rfl, (by simp only [go_sem, *]), (by simp only [go_sem, *]), (by simp only [go_sem, *]), (by simp only [go_sem, *]), (by simp only [go_sem, *]), (by simp only [go_sem, *]), ?_⟩
            rw [HCN.out, HS2.out]
            simp only [go_sem, *]
            exact HCS.out
    · obtain rfl : xt = 3 := by rw [hj] at hth; omega
      rw [hj] at hcd
      simp only [hj, Nat.reduceEqDiff, if_true, if_false, Nat.add_zero] at hn0 hn1 hn2 hn3
      have hN : cnL l (k + 1) = (cnL l k).set 3 ((cn l k 3 : Int) + 1) := by unfold cnL; rw [hn0, hn1, hn2, hn3]; rfl
      have hN' := congrArg iC hN
      rw [hn3] at hcd
      simp only [List.getD_cons_zero, List.getD_cons_succ, Int.natCast_add, Int.cast_ofNat_Int] at hcd
      have hcs := coll_set (r := .cells (iC (cnL l (k + 1))) 111) ca (Heap.set_same _ _ _)
      rw [Heap.set_set] at hcs
      generalize hcn : cnL l (k + 1) = C at *
      simp only [cnL, List.set_cons_zero, List.set_cons_succ, iC_cons, iC_nil] at hN'
      have HN : Hid _ := hN'
      have HCN : Hid _ := hcn
      have HCS : Hid _ := hcs
      have HSU : Hid _ := hsu
      have HCD : Hid _ := hcd
      clear hN hN' hcn hcs hsu hcd hn0 hn1 hn2 hn3 hb0 hb1 hb2 hb3 hth hj
      by_cases h1 : e.th = 3
      · have hs := HSU.out
        rw [HCD.out, decide_eq_true h1.symm] at hs
        simp only [Bool.not_true, Bool.false_and, Bool.false_eq_true, if_false] at hs
        have HS : Hid _ := hs
        clear hs HSU HCD ca
        obtain ⟨et, ek, eo, ef⟩ := e
        obtain rfl : et = 3 := h1
        repeat' (first
    | (with_reducible apply run_seq)
    | (with_reducible apply run_block)
    | (with_reducible apply run_inBlock)
    | (with_reducible apply run_skip)
    | ((with_reducible apply run_go); simp only [go_sem, *])
    | ((with_reducible apply run_drawGo Cl.zero Cl.zero_plain mixed); (focus kernel_rfl); simp only [go_sem, *])
    | ((with_reducible apply run_cond_t); (focus (simp only [go_sem, *]; done)))
    | ((with_reducible apply run_cond_f); (focus (simp only [go_sem, *]; done)))
    | ((with_reducible apply runO_alloc); (focus (simp only [go_sem, *]; rfl)); intro pb hpb; have hfb := Heap.ne_of_none hpb; (try simp only [Heap.set_none'] at hpb); (with_reducible apply runO_go); simp only [go_sem, *])
    | ((with_reducible apply runO_store); (focus (simp only [go_sem]; rfl)); (focus (simp only [go_sem, *]; rfl)); (focus (simp only [go_sem, *]; rfl)); (focus (simp only [go_sem, *]; done)); (focus (simp only [go_sem, *]; done)); (focus (simp only [go_sem, *]; done)); (with_reducible apply runO_go); simp only [go_sem, *, Heap.set_set])
    | ((with_reducible apply runD_skipF); (focus rfl); (focus (simp only [go_sem, *]; rfl)); (focus rfl); (with_reducible first | apply runD_go Cl.zero_plain | apply runD_goC); simp only [go_sem, *]))
        refine run_drop (H' := Ha.set p6 (.cells (iC C) 111)) (by rw [HN.out]; (repeat (first | assumption | exact Heap.sub_refl _ | refine Heap.sub_congr ?_ | refine Heap.sub_set ?_ (by assumption) | refine Heap.sub_set2 ?_ (by first | assumption | (simp only [*]; done) | (simp only [Heap.set_none', ne_eq, *, not_false_eq_true, and_self]; done)))); done) ?_
        refine IHa.out (l.length - (k + 1)) _ _ (by omega) ⟨k + 1, by omega, rfl, (by simp only [go_sem, *]), (by simp only [go_sem, *]), (by simp only [go_sem, *]), (by simp only [go_sem, *]), (by simp only [go_sem, *]), (by simp only [go_sem, *]), ?_⟩
        rw [HCN.out, HS.out]
        simp only [go_sem, *]
        exact HCS.out
      · have hs := HSU.out
        have h1n : ¬ (3 : Int) = e.th := fun e => h1 e.symm
        rw [HCD.out, decide_eq_false h1n] at hs
        have HS : Hid _ := hs
        clear hs HSU HCD ca
        generalize depE ⟨3, xk, xo, xf⟩ e = q at *
        cases q with
        | false =>
          have hs := HS.out
          simp only [Bool.and_false, Bool.false_and, Bool.false_eq_true, if_false] at hs
          have HS2 : Hid _ := hs
          clear hs HS
          repeat' (first
    | (with_reducible apply run_seq)
    | (with_reducible apply run_block)
    | (with_reducible apply run_inBlock)
    | (with_reducible apply run_skip)
    | ((with_reducible apply run_go); simp only [go_sem, *])
    | ((with_reducible apply run_drawGo Cl.zero Cl.zero_plain mixed); (focus kernel_rfl); simp only [go_sem, *])
    | ((with_reducible apply run_cond_t); (focus (simp only [go_sem, *]; done)))
    | ((with_reducible apply run_cond_f); (focus (simp only [go_sem, *]; done)))
    | ((with_reducible apply runO_alloc); (focus (simp only [go_sem, *]; rfl)); intro pb hpb; have hfb := Heap.ne_of_none hpb; (try simp only [Heap.set_none'] at hpb); (with_reducible apply runO_go); simp only [go_sem, *])
    | ((with_reducible apply runO_store); (focus (simp only [go_sem]; rfl)); (focus (simp only [go_sem, *]; rfl)); (focus (simp only [go_sem, *]; rfl)); (focus (simp only [go_sem, *]; done)); (focus (simp only [go_sem, *]; done)); (focus (simp only [go_sem, *]; done)); (with_reducible apply runO_go); simp only [go_sem, *, Heap.set_set])
    | ((with_reducible apply runD_callFG known32); (focus exact ⟨rfl, rfl⟩); (focus (simp only [go_sem, *]; rfl)); (focus (intro _; simp only [go_sem, *]; exact dp _)); (with_reducible first | apply runD_go Cl.zero_plain | apply runD_goC); simp only [go_sem, *]))
          refine run_drop (H' := Ha.set p6 (.cells (iC C) 111)) (by rw [HN.out]; (repeat (first | assumption | exact Heap.sub_refl _ | refine Heap.sub_congr ?_ | refine Heap.sub_set ?_ (by assumption) | refine Heap.sub_set2 ?_ (by first | assumption | (simp only [*]; done) | (simp only [Heap.set_none', ne_eq, *, not_false_eq_true, and_self]; done)))); done) ?_
          refine IHa.out (l.length - (k + 1)) _ _ (by omega) ⟨k + 1, by omega, rfl, (by simp only [go_sem, *]), (by simp only [go_sem, *]), (by simp only [go_sem, *]), (by simp only [go_sem, *]), (by simp only [go_sem, *]), (by simp only [go_sem, *]), ?_⟩
          rw [HCN.out, HS2.out]
          simp only [go_sem, *]
          exact HCS.out
        | true =>
          repeat' (first
    | (with_reducible apply run_seq)
    | (with_reducible apply run_block)
    | (with_reducible apply run_inBlock)
    | (with_reducible apply run_skip)
    | ((with_reducible apply run_go); simp only [go_sem, *])
    | ((with_reducible apply run_drawGo Cl.zero Cl.zero_plain mixed); (focus kernel_rfl); simp only [go_sem, *])
    | ((with_reducible apply run_cond_t); (focus (simp only [go_sem, *]; done)))
    | ((with_reducible apply run_cond); (focus (simp only [go_sem, *]; rfl)); (all_goals intro _))
    | ((with_reducible apply runO_alloc); (focus (simp only [go_sem, *]; rfl)); intro pb hpb; have hfb := Heap.ne_of_none hpb; (try simp only [Heap.set_none'] at hpb); (with_reducible apply runO_go); simp only [go_sem, *])
    | ((with_reducible apply runO_store); (focus (simp only [go_sem]; rfl)); (focus (simp only [go_sem, *]; rfl)); (focus (simp only [go_sem, *]; rfl)); (focus (simp only [go_sem, *]; done)); (focus (simp only [go_sem, *]; done)); (focus (simp only [go_sem, *]; done)); (with_reducible apply runO_go); simp only [go_sem, *, Heap.set_set])
    | ((with_reducible apply runD_callFG known32); (focus exact ⟨rfl, rfl⟩); (focus (simp only [go_sem, *]; rfl)); (focus (intro _; simp only [go_sem, *]; exact dp _)); (with_reducible first | apply runD_go Cl.zero_plain | apply runD_goC); simp only [go_sem, *])
    | ((with_reducible apply runO_buildSlice); (focus (simp only [go_sem]; rfl)); (focus (simp only [go_sem]; rfl)); (focus (simp only [go_sem]; rfl)); (focus rfl); (focus rfl); (focus (simp only [go_sem, *]; done)); (focus (simp only [go_sem, *]; done)); (focus decide); (with_reducible apply runO_go); simp only [go_sem, *]))
          · rename_i h3
            have hs := HS.out
            rw [h3] at hs
            simp only [Bool.not_false, Bool.and_self, if_true] at hs
            have HS2 : Hid _ := hs
            clear hs HS
            refine runO_drop (H' := Ha.set p6 (.cells (iC C) 111)) (by rw [HN.out]; (repeat (first | assumption | exact Heap.sub_refl _ | refine Heap.sub_congr ?_ | refine Heap.sub_set ?_ (by assumption) | refine Heap.sub_set2 ?_ (by first | assumption | (simp only [*]; done) | (simp only [Heap.set_none', ne_eq, *, not_false_eq_true, and_self]; done)))); done) ?_
            have hcs := HCS.out
            (refine runO_coll (t := 66) Try.underlying66 sz74 by74 zr74 rfl (by simp only [go_sem, *]; exact hcs) (by simp only [go_sem, *]; rfl) (rcsC_all _) (by simp) (by (try simp only [List.length_range, List.length_map, List.length_take, List.length_cons, List.length_nil, List.length_append, go_sem]); omega) (by (try simp only [maxLen, List.length_range, List.length_map, List.length_take, List.length_cons, List.length_nil, List.length_append, go_sem]); omega) (fun d1 H1 hc1 => ?_); (with_reducible apply runO_go); simp only [go_sem, *])
            repeat' (first
    | (with_reducible apply run_inBlock)
    | ((with_reducible apply run_go); simp only [go_sem, *]))
            refine IHa.out (l.length - (k + 1)) _ _ (by omega) ⟨k + 1, by omega, rfl, (by simp only [go_sem, *]), (by simp only [go_sem, *]), (by simp only [go_sem, *]), (by simp only [go_sem, *]), (by simp only [go_sem, *]), (by simp only [go_sem, *]), ?_⟩
            simp only [go_sem]
            rw [HCN.out, HS2.out, rcK_snoc, rcsC_snoc]
            exact hc1
          · rename_i h3
            have hs := HS.out
            rw [h3] at hs
            simp only [Bool.and_false, Bool.false_eq_true, if_false] at hs
            have HS2 : Hid _ := hs
            clear hs HS
            refine run_drop (H' := Ha.set p6 (.cells (iC C) 111)) (by rw [HN.out]; (repeat (first | assumption | exact Heap.sub_refl _ | refine Heap.sub_congr ?_ | refine Heap.sub_set ?_ (by assumption) | refine Heap.sub_set2 ?_ (by first | assumption | (simp only [*]; done) | (simp only [Heap.set_none', ne_eq, *, not_false_eq_true, and_self]; done)))); done) ?_
            refine IHa.out (l.length - (k + 1)) _ _ (by omega) ⟨k + 1, by omega, rfl, (by simp only [go_sem, *]), (by simp only [go_sem, *]), (by simp only [go_sem, *]), (by simp only [go_sem, *]), (by simp only [go_sem, *]), (by simp only [go_sem, *]), ?_⟩
            rw [HCN.out, HS2.out]
            simp only [go_sem, *]
            exact HCS.out
  · obtain rfl : k = l.length := by omega
    have hsub1 : H.sub (K.set p6 (.cells (iC (cnL l l.length)) 111)) := Heap.sub_set2 hsK hp6
    refine run_coll (j := 4) (by rw [hac]; exact ca) ?_
    repeat' (first
    | (with_reducible apply run_seq)
    | (with_reducible apply run_exit rfl)
    | ((with_reducible apply run_go); simp only [go_sem, *])
    | ((with_reducible apply run_cond_f); (focus (simp only [go_sem, *]; done)))
    | ((with_reducible apply run_ret Try.func60 res60 (H' := H)); (focus (simp only [go_sem, *]; rfl)); (focus trivial); (focus (repeat (first | assumption | exact Heap.sub_refl _ | refine Heap.sub_congr ?_ | refine Heap.sub_set ?_ (by assumption) | refine Heap.sub_set2 ?_ (by first | assumption | (simp only [*]; done) | (simp only [Heap.set_none', ne_eq, *, not_false_eq_true, and_self]; done)))))))
    exact ⟨rfl, rfl⟩
end Go.Proofs.Ytobdagjdhgjplaa
