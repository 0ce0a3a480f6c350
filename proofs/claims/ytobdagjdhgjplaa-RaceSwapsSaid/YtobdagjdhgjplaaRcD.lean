/-
  Contracts: the document's races of a row with what a thread does next.
-/
import Derived.Test.YtobdagjdhgjplaaRcB
set_option linter.unusedSimpArgs false
set_option linter.unusedVariables false
namespace Go.Proofs.Ytobdagjdhgjplaa
open Go Go.Sn Go.RowKit

def natsI (l : List Nat) : List Int := l.map fun i : Nat => (i : Int)
theorem natsI_snoc (l : List Nat) (i : Nat) : natsI (l ++ [i]) = natsI l ++ [(i : Int)] := by simp [natsI]
theorem natsI_len (l : List Nat) : (natsI l).length = l.length := by simp [natsI]
theorem lastI_succ (l : List Ev) (t : Int) (k : Nat) : lastI l t (k + 1) = if (l.getD k default).th = t then (k : Int) else lastI l t k := rfl

set_option maxRecDepth 100000 in
set_option maxHeartbeats 16000000 in
theorem rWith_call (W : World) (H : Heap) (l : List Ev) (e : Ev) (hl : l.length ≤ 100000) :
    CallA Try.prog W 61 [.list (evsC l), .agg (evC e)] H fun r H' => r = .list (intsC (natsI (wiD l e l.length))) ∧ H' = H := by
  refine call_in Try.func61 rfl Try.ntmps61 (by simp) ?_
  have c1 := fun H => order_call W H l hl
  have hol := ordU_length l l.length
  have hrows := ordU_rows l l.length
  repeat' (first
    | (with_reducible apply run_seq)
    | (with_reducible apply run_block)
    | ((with_reducible apply run_go); simp only [go_sem, *])
    | ((with_reducible apply runO_box); (focus (simp only [go_sem, *]; done)); intro pb hpb; have hfb := Heap.ne_of_none hpb; (try simp only [Heap.set_none'] at hpb); (with_reducible apply runO_go); simp only [go_sem, *])
    | ((with_reducible apply runO_callF known81); simp only [go_sem, *]; refine (c1 _).use ?_; (with_reducible apply runO_go); simp only [go_sem, *]))
  generalize pb = p3 at *
  have hA : (H.set p3 (.cells (evC e) 55)) p3 = some (.cells (evC e) 55) := Heap.set_same _ _ _
  have hsK : H.sub (H.set p3 (.cells (evC e) 55)) := Heap.sub_set (Heap.sub_refl _) hpb
  generalize H.set p3 (.cells (evC e) 55) = K at *
  clear c1 hpb hfb
  refine run_loop (fun na ea Ha => ∃ (k : Nat), k ≤ l.length ∧ na = l.length - k ∧ ea 0 = .list (evsC l) ∧ ea 3 = .v (.pointer (some ⟨p3, 0, none⟩)) ∧ ea 5 = .nil ∧ ea 6 = .list (rowsC (ordU l l.length)) ∧ ea 7 = .v (.int .i64 (lastI l e.th k)) ∧ ea 8 = .v (.int .i64 (k : Int)) ∧ K = Ha) (l.length)
      ⟨0, Nat.zero_le _, rfl, (by simp only [go_sem, *]), (by simp only [go_sem, *]), (by simp only [go_sem, *]), (by simp only [go_sem, *]), (by simp only [go_sem] <;> rfl), (by simp only [go_sem] <;> rfl), rfl⟩ ?_
  rintro na ea Ha ih ⟨k, ak, rfl, as0, as3, as5, as6, as7, as8, rfl⟩
  have IHa : Hid _ := ih
  clear ih
  by_cases hlt : k < l.length
  · have hw := wrap_succ (k := k) (by omega)
    have hsu := lastI_succ l e.th k
    by_cases h1 : (l.getD k default).th = e.th
    · rw [if_pos h1] at hsu
      repeat' (first
    | (with_reducible apply run_seq)
    | (with_reducible apply run_block)
    | (with_reducible apply run_inBlock)
    | (with_reducible apply run_skip)
    | ((with_reducible apply run_go); simp only [go_sem, *])
    | ((with_reducible apply run_drawGo Cl.zero Cl.zero_plain mixed); (focus kernel_rfl); simp only [go_sem, *])
    | ((with_reducible apply run_cond_t); (focus (simp only [go_sem, *]; done))))
      refine IHa.out (l.length - (k + 1)) _ _ (by omega) ⟨k + 1, by omega, rfl, (by simp only [go_sem, *]), (by simp only [go_sem, *]), (by simp only [go_sem, *]), (by simp only [go_sem, *]), (by first | (simp only [go_sem, *]; done) | (simp only [go_sem, *]; rfl)), (by simp only [go_sem, *]), rfl⟩
    · rw [if_neg h1] at hsu
      repeat' (first
    | (with_reducible apply run_seq)
    | (with_reducible apply run_block)
    | (with_reducible apply run_inBlock)
    | (with_reducible apply run_skip)
    | ((with_reducible apply run_go); simp only [go_sem, *])
    | ((with_reducible apply run_drawGo Cl.zero Cl.zero_plain mixed); (focus kernel_rfl); simp only [go_sem, *])
    | ((with_reducible apply run_cond_t); (focus (simp only [go_sem, *]; done)))
    | ((with_reducible apply run_cond_f); (focus (simp only [go_sem, *]; done))))
      refine IHa.out (l.length - (k + 1)) _ _ (by omega) ⟨k + 1, by omega, rfl, (by simp only [go_sem, *]), (by simp only [go_sem, *]), (by simp only [go_sem, *]), (by simp only [go_sem, *]), (by first | (simp only [go_sem, *]; done) | (simp only [go_sem, *]; rfl)), (by simp only [go_sem, *]), rfl⟩
  · obtain rfl : k = l.length := by omega
    have hlc := last_cases l e.th l.length (Nat.le_refl _)
    clear IHa
    repeat' (first
    | (with_reducible apply run_seq)
    | (with_reducible apply run_block)
    | (with_reducible apply run_exit rfl)
    | ((with_reducible apply run_go); simp only [go_sem, *])
    | ((with_reducible apply run_cond_f); (focus (simp only [go_sem, *]; done))))
    refine run_loop (fun nb eb Hb => ∃ (i : Nat), i ≤ l.length ∧ nb = l.length - i ∧ eb 0 = .list (evsC l) ∧ eb 3 = .v (.pointer (some ⟨p3, 0, none⟩)) ∧ eb 6 = .list (rowsC (ordU l l.length)) ∧ eb 7 = .v (.int .i64 (lastI l e.th l.length)) ∧ eb 9 = .v (.int .i64 (i : Int)) ∧ Coll (K) (3) (1) (intsC (natsI (wiD l e i))) (eb 5) Hb) (l.length)
        ⟨0, Nat.zero_le _, rfl, (by simp only [go_sem, *]), (by simp only [go_sem, *]), (by simp only [go_sem, *]), (by simp only [go_sem, *]), (by simp only [go_sem] <;> rfl), (by simp only [go_sem]; exact (by rw [as5]; exact .none rfl))⟩ ?_
    rintro nb eb Hb ih ⟨i, bk, rfl, bs0, bs3, bs6, bs7, bs9, cb⟩
    generalize hbc : eb 5 = db at cb
    have IHb : Hid _ := ih
    clear ih
    have hsub := cb.sub
    have q3 := hsub _ _ hA
    by_cases hlt : i < l.length
    · have hw := wrap_succ (k := i) (by omega)
      have hsu := wiD_succ l e i
      have hcl := wiD_len l e i
      have hcl2 := natsI_len (wiD l e i)
      have hsH := hsK.trans hsub
      have dp := fun H => depR_call W H (l.getD i default) e
      have hcd : cndD l e i = (!decide ((l.getD i default).th = e.th) && depR (l.getD i default) e && !knownD l e.th i) := rfl
      have hkn : knownD l e.th i = (decide (0 ≤ lastI l e.th l.length) && decide ((i : Int) ≤ lastI l e.th l.length) && ordB l (lastI l e.th l.length).toNat i) := rfl
      have HSU : Hid _ := hsu
      have HCD : Hid _ := hcd
      generalize knownD l e.th i = kn at *
      generalize depR (l.getD i default) e = d at *
      clear hsu hcd
      have hcases : (lastI l e.th l.length = -1 ∧ kn = false) ∨ ∃ m, m < l.length ∧ lastI l e.th l.length = (m : Int) ∧ kn = (decide ((i : Int) ≤ (m : Int)) && ((ordU l l.length).getD m []).getD i false) := by
        rcases hlc with ⟨h1, _, _⟩ | ⟨m, hm, h2, _, _, _⟩
        · exact .inl ⟨h1, by rw [hkn, h1]; rfl⟩
        · exact .inr ⟨m, hm, h2, by rw [hkn, h2, decide_eq_true (show (0 : Int) ≤ (m : Int) by omega)]; rfl⟩
      clear hkn hlc
      have hrowl : ∀ m, m < l.length → i < ((ordU l l.length).getD m []).length := fun m hm => by
        have hmo : m < (ordU l l.length).length := by omega
        have := hrows ((ordU l l.length).getD m []) (by rw [List.getD_eq_getElem?_getD, List.getElem?_eq_getElem hmo]; exact List.getElem_mem _)
        omega
      have h0l : 0 < l.length := by omega
      have hr0 := hrowl 0 h0l
      have hctx : (lastI l e.th l.length = -1 ∧ kn = false) ∨ (∃ m : Nat, lastI l e.th l.length = (m : Int) ∧ (0 : Int) ≤ (m : Int) ∧ ¬ (i : Int) ≤ (m : Int) ∧ m < (ordU l l.length).length ∧ i < ((ordU l l.length).getD m []).length ∧ kn = false) ∨
          ∃ m : Nat, lastI l e.th l.length = (m : Int) ∧ (0 : Int) ≤ (m : Int) ∧ (i : Int) ≤ (m : Int) ∧ m < (ordU l l.length).length ∧ i < ((ordU l l.length).getD m []).length ∧ ((ordU l l.length).getD m []).getD i false = kn := by
        rcases hcases with h | ⟨m, hm, h2, h3⟩
        · exact .inl h
        · by_cases him : (i : Int) ≤ (m : Int)
          · exact .inr (.inr ⟨m, h2, by omega, him, by omega, hrowl m hm, by rw [h3, decide_eq_true him, Bool.true_and]⟩)
          · exact .inr (.inl ⟨m, h2, by omega, him, by omega, hrowl m hm, by rw [h3, decide_eq_false him]; rfl⟩)
      have h0o : 0 < (ordU l l.length).length := by omega
      clear hcases hrowl hrows hol
      rcases hctx with ⟨hl0, hk⟩ | ⟨m, hl0, hm0, him, hmo, hio, hk⟩ | ⟨m, hl0, hm0, him, hmo, hio, hk⟩
      all_goals
        rw [hl0] at bs7
        by_cases h1 : (l.getD i default).th = e.th
        · have hs := HSU.out
          rw [HCD.out, decide_eq_true h1] at hs
          simp only [Bool.not_true, Bool.false_and, Bool.false_eq_true, if_false] at hs
          have HS : Hid _ := hs
          clear hs HSU HCD
          repeat' (first
    | (with_reducible apply run_seq)
    | (with_reducible apply run_block)
    | (with_reducible apply run_inBlock)
    | (with_reducible apply run_skip)
    | ((with_reducible apply run_go); simp only [go_sem, *])
    | ((with_reducible apply run_drawGo Cl.zero Cl.zero_plain mixed); (focus kernel_rfl); simp only [go_sem, *])
    | ((with_reducible apply run_cond_t); (focus (simp only [go_sem, *]; done)))
    | ((with_reducible apply run_cond_f); (focus (simp only [go_sem, *]; done)))
    | ((with_reducible apply runD_skipF); (focus rfl); (focus (simp only [go_sem, *]; rfl)); (focus rfl); (with_reducible first | apply runD_go Cl.zero_plain | apply runD_goC); simp only [go_sem, *]))
          refine IHb.out (l.length - (i + 1)) _ _ (by omega) ⟨i + 1, by omega, rfl, (by simp only [go_sem, *]), (by simp only [go_sem, *]), (by simp only [go_sem, *]), (by simp only [go_sem, *]), (by simp only [go_sem, *]), ?_⟩
          rw [HS.out]
          simp only [go_sem, *]
        · have hs := HSU.out
          rw [HCD.out, decide_eq_false h1] at hs
          have HS : Hid _ := hs
          clear hs HSU HCD
          cases d <;> cases kn <;> (have hs := HS.out; simp only [Bool.not_false, Bool.true_and, Bool.and_false, Bool.and_true, Bool.not_true, Bool.false_eq_true, if_false, if_true, Bool.and_self] at hs; have HS2 : Hid _ := hs; clear hs HS)
          all_goals first
            | cases hk; done
            | skip
          all_goals (repeat' (first
    | (with_reducible apply run_seq)
    | (with_reducible apply run_block)
    | (with_reducible apply run_inBlock)
    | (with_reducible apply run_skip)
    | ((with_reducible apply run_go); simp only [go_sem, *])
    | ((with_reducible apply run_drawGo Cl.zero Cl.zero_plain mixed); (focus kernel_rfl); simp only [go_sem, *])
    | ((with_reducible apply run_cond_t); (focus (simp only [go_sem, *]; done)))
    | ((with_reducible apply run_cond_f); (focus (simp only [go_sem, *]; done)))
    | ((with_reducible apply runD_callFG known51); (focus exact ⟨rfl, rfl⟩); (focus (simp only [go_sem, *]; rfl)); (focus (intro _; simp only [go_sem, *]; exact dp _)); (with_reducible first | apply runD_go Cl.zero_plain | apply runD_goC); simp only [go_sem, *])
    | ((with_reducible apply runO_buildSlice); (focus (simp only [go_sem]; rfl)); (focus (simp only [go_sem]; rfl)); (focus (simp only [go_sem]; rfl)); (focus rfl); (focus rfl); (focus (simp only [go_sem, *]; done)); (focus (simp only [go_sem, *]; done)); (focus decide); (with_reducible apply runO_go); simp only [go_sem, *])))
          all_goals first
            | (refine IHb.out (l.length - (i + 1)) _ _ (by omega) ⟨i + 1, by omega, rfl, (by simp only [go_sem, *]), (by simp only [go_sem, *]), (by simp only [go_sem, *]), (by simp only [go_sem, *]), (by simp only [go_sem, *]), ?_⟩; rw [HS2.out]; simp only [go_sem, *]; done)
            | ((refine runO_coll (t := 22) Try.underlying22 sz3 by3 zr3 rfl (by simp only [go_sem, *]; exact cb) (by simp only [go_sem, *]; rfl) (intsC_all _) (by simp) (by (try simp only [List.length_range, List.length_map, List.length_take, List.length_cons, List.length_nil, List.length_append, go_sem]); omega) (by (try simp only [maxLen, List.length_range, List.length_map, List.length_take, List.length_cons, List.length_nil, List.length_append, go_sem]); omega) (fun d1 H1 hc1 => ?_); (with_reducible apply runO_go); simp only [go_sem, *]))
          all_goals (repeat' (first
    | (with_reducible apply run_inBlock)
    | ((with_reducible apply run_go); simp only [go_sem, *])))
          all_goals (refine IHb.out (l.length - (i + 1)) _ _ (by omega) ⟨i + 1, by omega, rfl, (by simp only [go_sem, *]), (by simp only [go_sem, *]), (by simp only [go_sem, *]), (by simp only [go_sem, *]), (by simp only [go_sem, *]), ?_⟩; simp only [go_sem]; rw [HS2.out, natsI_snoc, intsC_snoc]; exact hc1)
    · obtain rfl : i = l.length := by omega
      refine run_coll (j := 5) (by rw [hbc]; exact cb) ?_
      repeat' (first
    | (with_reducible apply run_seq)
    | (with_reducible apply run_exit rfl)
    | ((with_reducible apply run_go); simp only [go_sem, *])
    | ((with_reducible apply run_cond_f); (focus (simp only [go_sem, *]; done)))
    | ((with_reducible apply run_ret Try.func61 res61 (H' := H)); (focus (simp only [go_sem, *]; rfl)); (focus trivial); (focus (repeat (first | assumption | exact Heap.sub_refl _ | refine Heap.sub_congr ?_ | refine Heap.sub_set ?_ (by assumption) | refine Heap.sub_set2 ?_ (by first | assumption | (simp only [*]; done) | (simp only [Heap.set_none', ne_eq, *, not_false_eq_true, and_self]; done)))))))
      exact ⟨rfl, rfl⟩
end Go.Proofs.Ytobdagjdhgjplaa
