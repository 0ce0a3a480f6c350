/-
  Several texts in one: StF, StG, StH.
-/
import Derived.Test.YtcfeklnmampndaaStBE
set_option linter.unusedSimpArgs false
set_option linter.unusedVariables false
namespace Go.Proofs.Ytcfeklnmampndaa
open Go Go.Sn Go.RowKit

abbrev AtP (H : Heap) (l : Lo) (s : St) : Prop := AtS 119 117 H l s
abbrev stP (H : Heap) (l : Lo) (s : St) : Heap := stH 119 117 H l s

theorem stH_row {eT eS : Nat} {K : Heap} {l : Lo} {s s' : St} (h : AtS eT eS K l s) (hm : stM s' l = stM s l) : stH eT eS K l s' = K.set l.c (.cells (rowM s' l) eT) := by
  unfold stH
  rw [hm]
  refine Heap.set_self ?_
  rw [Heap.set_other _ _ h.ne]
  exact h.hb
theorem stH_cell {eT eS : Nat} {K : Heap} {l : Lo} {s s' : St} (h : AtS eT eS K l s) (hm : rowM s' l = rowM s l) : stH eT eS K l s' = K.set l.b (.cells (stM s' l) eS) := by
  unfold stH
  rw [hm, Heap.set_self h.hc]
theorem stM_td (s : St) (k : Int) (x : Td) (l : Lo) : stM (s.setTd k x) l = stM s l := by
  unfold stM stD St.setTd
  simp only [List.length_set]
theorem rowM_var (s : St) (x n : Int) (l : Lo) : rowM (s.setVar x n) l = rowM s l := by unfold rowM St.setVar; (repeat' split) <;> rfl
theorem rowM_hol (s : St) (x n : Int) (l : Lo) : rowM (s.setHol x n) l = rowM s l := by unfold rowM St.setHol; (repeat' split) <;> rfl
theorem AtS.mono {eT eS : Nat} {K K' : Heap} {l : Lo} {s : St} (h : AtS eT eS K l s) (hs : K.sub K') : AtS eT eS K' l s := ⟨hs _ _ h.hb, hs _ _ h.hc, h.ne, h.cap⟩
theorem AtS.cell {eT eS : Nat} {K : Heap} {l : Lo} {s : St} (h : AtS eT eS K l s) : K l.b = some (.cells [.v (.int .i64 s.p.vs), .v (.int .i64 s.p.ms), .list (thsC s.p.th), .v (.slice (some ⟨l.c, 0, none⟩) s.ts.length l.cap), .v (.int .i64 s.v0), .v (.int .i64 s.v1), .v (.int .i64 s.v2), .v (.int .i64 s.v3), .v (.int .i64 s.h0), .v (.int .i64 s.h1)] eS) := h.hb
/-- What is known of a row's cells. -/
structure RowF (R : List D) (s : St) (l : Lo) (k : Nat) (X : Td) : Prop where
  q0 : R.getD (k * 4) default = .v (.int .i64 X.pc)
  q1 : R.getD (k * 4 + 1) default = .v (.int .i64 X.fu)
  q2 : R.getD (k * 4 + 2) default = .v (.int .i64 X.r0)
  q3 : R.getD (k * 4 + 3) default = .v (.int .i64 X.r1)
  p0 : ∀ n, R.take (k * 4) ++ [D.v (.int .i64 n)] ++ R.drop (k * 4 + 1) = (tdsC (s.ts.set k ⟨n, X.fu, X.r0, X.r1⟩)).flatten ++ l.rest
  p1 : ∀ n, R.take (k * 4 + 1) ++ [D.v (.int .i64 n)] ++ R.drop (k * 4 + 1 + 1) = (tdsC (s.ts.set k ⟨X.pc, n, X.r0, X.r1⟩)).flatten ++ l.rest
  p2 : ∀ n, R.take (k * 4 + 2) ++ [D.v (.int .i64 n)] ++ R.drop (k * 4 + 2 + 1) = (tdsC (s.ts.set k ⟨X.pc, X.fu, n, X.r1⟩)).flatten ++ l.rest
  p3 : ∀ n, R.take (k * 4 + 3) ++ [D.v (.int .i64 n)] ++ R.drop (k * 4 + 3 + 1) = (tdsC (s.ts.set k ⟨X.pc, X.fu, X.r0, n⟩)).flatten ++ l.rest
  m0 : k * 4 < R.length
  m1 : k * 4 + 1 < R.length
  m2 : k * 4 + 2 < R.length
  m3 : k * 4 + 3 < R.length
  n0 : k * 4 + 1 ≤ R.length
  n1 : k * 4 + 1 + 1 ≤ R.length
  n2 : k * 4 + 2 + 1 ≤ R.length
  n3 : k * 4 + 3 + 1 ≤ R.length
theorem rowF (s : St) (l : Lo) {k : Nat} (hk : k < s.ts.length) : RowF (rowM s l) s l k (s.ts.getD k default) := by
  have hle := tds_len s.ts l.rest
  have e : ((tdsC s.ts).flatten ++ l.rest) = rowM s l := rfl
  rw [e] at hle
  refine ⟨tds_get s.ts l.rest hk 0 (by omega), tds_get s.ts l.rest hk 1 (by omega), tds_get s.ts l.rest hk 2 (by omega), tds_get s.ts l.rest hk 3 (by omega),
    fun n => tds_put s.ts l.rest hk 0 (by omega) _ _ rfl, fun n => tds_put s.ts l.rest hk 1 (by omega) _ _ rfl, fun n => tds_put s.ts l.rest hk 2 (by omega) _ _ rfl, fun n => tds_put s.ts l.rest hk 3 (by omega) _ _ rfl,
    by omega, by omega, by omega, by omega, by omega, by omega, by omega, by omega⟩

set_option maxHeartbeats 4000000 in
theorem load_call (W : World) (H : Heap) (l : Lo) (s : St) (k : Nat) (i : In) (h : AtP H l s) (hk : k < s.ts.length) (hr : i.r = 0 ∨ i.r = 1) (hx : i.x = 0 ∨ i.x = 1 ∨ i.x = 2 ∨ i.x = 3) :
    CallA Try.prog W 73 [.v (.pointer (some ⟨l.b, 0, none⟩)), .v (.int .i64 (k : Int)), .agg (inC i)] H fun r H' => r = .tup [] ∧ H' = stP H l (s.setTd k ((s.td k).setReg i.r (s.var i.x))) := by
  refine call_in Try.func73 rfl Try.ntmps73 (by simp) ?_
  unfold stP
  rw [stH_row h (stM_td _ _ _ _)]
  have hb := h.cell
  have hc := h.hc
  have hne := h.ne
  have hcap := h.cap
  have hne' : l.c ≠ l.b := fun e => hne e.symm
  have htd : s.td (k : Int) = s.ts.getD k default := rfl
  try rw [htd]
  clear htd h
  obtain ⟨q0, q1, q2, q3, p0, p1, p2, p3, m0, m1, m2, m3, n0, n1, n2, n3⟩ := rowF s l hk
  have HRW : Hid (∀ s' : St, rowM s' l = (tdsC s'.ts).flatten ++ l.rest) := fun s' => rfl
  generalize hX : s.ts.getD k default = X at *
  generalize hR : rowM s l = R at *
  obtain ⟨ik, ir, ix, iq⟩ := i
  simp only at hr hx ⊢
  rcases hr with rfl | rfl
  · rcases hx with rfl | rfl | rfl | rfl
    · repeat' (first
    | (with_reducible apply run_seq)
    | ((with_reducible apply run_go); simp only [go_sem, *])
    | ((with_reducible apply run_drawGo Cl.zero Cl.zero_plain mixed); (focus kernel_rfl); simp only [go_sem, *])
    | ((with_reducible apply runO_box); (focus (simp only [go_sem, *]; done)); intro pb hpb; have hfb := Heap.ne_of_none hpb; (try simp only [Heap.set_none'] at hpb); (with_reducible apply runO_go); simp only [go_sem, *])
    | ((with_reducible apply runD_store); (focus (simp only [go_sem]; rfl)); (focus (simp only [go_sem, *]; rfl)); (focus (simp only [go_sem, *]; rfl)); (focus (simp only [go_sem, *]; done)); (focus (simp only [go_sem, *]; done)); (focus (simp only [go_sem, *]; done)); (focus (first | rfl | (simp only [go_sem, *]; done))); (with_reducible first | apply runD_go Cl.zero_plain | apply runD_goC); simp only [go_sem, *, Heap.set_set])
    | ((with_reducible apply run_end Try.func73 res73 (H' := H.set l.c (.cells (rowM (s.setTd (k : Int) (X.setReg 0 (s.var 0))) l) 119))); (focus (simp only [go_sem, *]; rfl)); (focus trivial); (focus (repeat (first | assumption | exact Heap.sub_refl _ | refine Heap.sub_congr ?_ | refine Heap.sub_set ?_ (by assumption) | refine Heap.sub_set2 ?_ (by first | assumption | (simp only [*]; done) | (simp only [Heap.set_none', ne_eq, *, not_false_eq_true, and_self]; done)))))))
      exact ⟨rfl, rfl⟩
    · repeat' (first
    | (with_reducible apply run_seq)
    | ((with_reducible apply run_go); simp only [go_sem, *])
    | ((with_reducible apply run_drawGo Cl.zero Cl.zero_plain mixed); (focus kernel_rfl); simp only [go_sem, *])
    | ((with_reducible apply runO_box); (focus (simp only [go_sem, *]; done)); intro pb hpb; have hfb := Heap.ne_of_none hpb; (try simp only [Heap.set_none'] at hpb); (with_reducible apply runO_go); simp only [go_sem, *])
    | ((with_reducible apply runD_store); (focus (simp only [go_sem]; rfl)); (focus (simp only [go_sem, *]; rfl)); (focus (simp only [go_sem, *]; rfl)); (focus (simp only [go_sem, *]; done)); (focus (simp only [go_sem, *]; done)); (focus (simp only [go_sem, *]; done)); (focus (first | rfl | (simp only [go_sem, *]; done))); (with_reducible first | apply runD_go Cl.zero_plain | apply runD_goC); simp only [go_sem, *, Heap.set_set])
    | ((with_reducible apply run_end Try.func73 res73 (H' := H.set l.c (.cells (rowM (s.setTd (k : Int) (X.setReg 0 (s.var 1))) l) 119))); (focus (simp only [go_sem, *]; rfl)); (focus trivial); (focus (repeat (first | assumption | exact Heap.sub_refl _ | refine Heap.sub_congr ?_ | refine Heap.sub_set ?_ (by assumption) | refine Heap.sub_set2 ?_ (by first | assumption | (simp only [*]; done) | (simp only [Heap.set_none', ne_eq, *, not_false_eq_true, and_self]; done)))))))
      exact ⟨rfl, rfl⟩
    · repeat' (first
    | (with_reducible apply run_seq)
    | ((with_reducible apply run_go); simp only [go_sem, *])
    | ((with_reducible apply run_drawGo Cl.zero Cl.zero_plain mixed); (focus kernel_rfl); simp only [go_sem, *])
    | ((with_reducible apply runO_box); (focus (simp only [go_sem, *]; done)); intro pb hpb; have hfb := Heap.ne_of_none hpb; (try simp only [Heap.set_none'] at hpb); (with_reducible apply runO_go); simp only [go_sem, *])
    | ((with_reducible apply runD_store); (focus (simp only [go_sem]; rfl)); (focus (simp only [go_sem, *]; rfl)); (focus (simp only [go_sem, *]; rfl)); (focus (simp only [go_sem, *]; done)); (focus (simp only [go_sem, *]; done)); (focus (simp only [go_sem, *]; done)); (focus (first | rfl | (simp only [go_sem, *]; done))); (with_reducible first | apply runD_go Cl.zero_plain | apply runD_goC); simp only [go_sem, *, Heap.set_set])
    | ((with_reducible apply run_end Try.func73 res73 (H' := H.set l.c (.cells (rowM (s.setTd (k : Int) (X.setReg 0 (s.var 2))) l) 119))); (focus (simp only [go_sem, *]; rfl)); (focus trivial); (focus (repeat (first | assumption | exact Heap.sub_refl _ | refine Heap.sub_congr ?_ | refine Heap.sub_set ?_ (by assumption) | refine Heap.sub_set2 ?_ (by first | assumption | (simp only [*]; done) | (simp only [Heap.set_none', ne_eq, *, not_false_eq_true, and_self]; done)))))))
      exact ⟨rfl, rfl⟩
    · repeat' (first
    | (with_reducible apply run_seq)
    | ((with_reducible apply run_go); simp only [go_sem, *])
    | ((with_reducible apply run_drawGo Cl.zero Cl.zero_plain mixed); (focus kernel_rfl); simp only [go_sem, *])
    | ((with_reducible apply runO_box); (focus (simp only [go_sem, *]; done)); intro pb hpb; have hfb := Heap.ne_of_none hpb; (try simp only [Heap.set_none'] at hpb); (with_reducible apply runO_go); simp only [go_sem, *])
    | ((with_reducible apply runD_store); (focus (simp only [go_sem]; rfl)); (focus (simp only [go_sem, *]; rfl)); (focus (simp only [go_sem, *]; rfl)); (focus (simp only [go_sem, *]; done)); (focus (simp only [go_sem, *]; done)); (focus (simp only [go_sem, *]; done)); (focus (first | rfl | (simp only [go_sem, *]; done))); (with_reducible first | apply runD_go Cl.zero_plain | apply runD_goC); simp only [go_sem, *, Heap.set_set])
    | ((with_reducible apply run_end Try.func73 res73 (H' := H.set l.c (.cells (rowM (s.setTd (k : Int) (X.setReg 0 (s.var 3))) l) 119))); (focus (simp only [go_sem, *]; rfl)); (focus trivial); (focus (repeat (first | assumption | exact Heap.sub_refl _ | refine Heap.sub_congr ?_ | refine Heap.sub_set ?_ (by assumption) | refine Heap.sub_set2 ?_ (by first | assumption | (simp only [*]; done) | (simp only [Heap.set_none', ne_eq, *, not_false_eq_true, and_self]; done)))))))
      exact ⟨rfl, rfl⟩
  · rcases hx with rfl | rfl | rfl | rfl
    · repeat' (first
    | (with_reducible apply run_seq)
    | ((with_reducible apply run_go); simp only [go_sem, *])
    | ((with_reducible apply run_drawGo Cl.zero Cl.zero_plain mixed); (focus kernel_rfl); simp only [go_sem, *])
    | ((with_reducible apply runO_box); (focus (simp only [go_sem, *]; done)); intro pb hpb; have hfb := Heap.ne_of_none hpb; (try simp only [Heap.set_none'] at hpb); (with_reducible apply runO_go); simp only [go_sem, *])
    | ((with_reducible apply runD_store); (focus (simp only [go_sem]; rfl)); (focus (simp only [go_sem, *]; rfl)); (focus (simp only [go_sem, *]; rfl)); (focus (simp only [go_sem, *]; done)); (focus (simp only [go_sem, *]; done)); (focus (simp only [go_sem, *]; done)); (focus (first | rfl | (simp only [go_sem, *]; done))); (with_reducible first | apply runD_go Cl.zero_plain | apply runD_goC); simp only [go_sem, *, Heap.set_set])
    | ((with_reducible apply run_end Try.func73 res73 (H' := H.set l.c (.cells (rowM (s.setTd (k : Int) (X.setReg 1 (s.var 0))) l) 119))); (focus (simp only [go_sem, *]; rfl)); (focus trivial); (focus (repeat (first | assumption | exact Heap.sub_refl _ | refine Heap.sub_congr ?_ | refine Heap.sub_set ?_ (by assumption) | refine Heap.sub_set2 ?_ (by first | assumption | (simp only [*]; done) | (simp only [Heap.set_none', ne_eq, *, not_false_eq_true, and_self]; done)))))))
      exact ⟨rfl, rfl⟩
    · repeat' (first
    | (with_reducible apply run_seq)
    | ((with_reducible apply run_go); simp only [go_sem, *])
    | ((with_reducible apply run_drawGo Cl.zero Cl.zero_plain mixed); (focus kernel_rfl); simp only [go_sem, *])
    | ((with_reducible apply runO_box); (focus (simp only [go_sem, *]; done)); intro pb hpb; have hfb := Heap.ne_of_none hpb; (try simp only [Heap.set_none'] at hpb); (with_reducible apply runO_go); simp only [go_sem, *])
    | ((with_reducible apply runD_store); (focus (simp only [go_sem]; rfl)); (focus (simp only [go_sem, *]; rfl)); (focus (simp only [go_sem, *]; rfl)); (focus (simp only [go_sem, *]; done)); (focus (simp only [go_sem, *]; done)); (focus (simp only [go_sem, *]; done)); (focus (first | rfl | (simp only [go_sem, *]; done))); (with_reducible first | apply runD_go Cl.zero_plain | apply runD_goC); simp only [go_sem, *, Heap.set_set])
    | ((with_reducible apply run_end Try.func73 res73 (H' := H.set l.c (.cells (rowM (s.setTd (k : Int) (X.setReg 1 (s.var 1))) l) 119))); (focus (simp only [go_sem, *]; rfl)); (focus trivial); (focus (repeat (first | assumption | exact Heap.sub_refl _ | refine Heap.sub_congr ?_ | refine Heap.sub_set ?_ (by assumption) | refine Heap.sub_set2 ?_ (by first | assumption | (simp only [*]; done) | (simp only [Heap.set_none', ne_eq, *, not_false_eq_true, and_self]; done)))))))
      exact ⟨rfl, rfl⟩
    · repeat' (first
    | (with_reducible apply run_seq)
    | ((with_reducible apply run_go); simp only [go_sem, *])
    | ((with_reducible apply run_drawGo Cl.zero Cl.zero_plain mixed); (focus kernel_rfl); simp only [go_sem, *])
    | ((with_reducible apply runO_box); (focus (simp only [go_sem, *]; done)); intro pb hpb; have hfb := Heap.ne_of_none hpb; (try simp only [Heap.set_none'] at hpb); (with_reducible apply runO_go); simp only [go_sem, *])
    | ((with_reducible apply runD_store); (focus (simp only [go_sem]; rfl)); (focus (simp only [go_sem, *]; rfl)); (focus (simp only [go_sem, *]; rfl)); (focus (simp only [go_sem, *]; done)); (focus (simp only [go_sem, *]; done)); (focus (simp only [go_sem, *]; done)); (focus (first | rfl | (simp only [go_sem, *]; done))); (with_reducible first | apply runD_go Cl.zero_plain | apply runD_goC); simp only [go_sem, *, Heap.set_set])
    | ((with_reducible apply run_end Try.func73 res73 (H' := H.set l.c (.cells (rowM (s.setTd (k : Int) (X.setReg 1 (s.var 2))) l) 119))); (focus (simp only [go_sem, *]; rfl)); (focus trivial); (focus (repeat (first | assumption | exact Heap.sub_refl _ | refine Heap.sub_congr ?_ | refine Heap.sub_set ?_ (by assumption) | refine Heap.sub_set2 ?_ (by first | assumption | (simp only [*]; done) | (simp only [Heap.set_none', ne_eq, *, not_false_eq_true, and_self]; done)))))))
      exact ⟨rfl, rfl⟩
    · repeat' (first
    | (with_reducible apply run_seq)
    | ((with_reducible apply run_go); simp only [go_sem, *])
    | ((with_reducible apply run_drawGo Cl.zero Cl.zero_plain mixed); (focus kernel_rfl); simp only [go_sem, *])
    | ((with_reducible apply runO_box); (focus (simp only [go_sem, *]; done)); intro pb hpb; have hfb := Heap.ne_of_none hpb; (try simp only [Heap.set_none'] at hpb); (with_reducible apply runO_go); simp only [go_sem, *])
    | ((with_reducible apply runD_store); (focus (simp only [go_sem]; rfl)); (focus (simp only [go_sem, *]; rfl)); (focus (simp only [go_sem, *]; rfl)); (focus (simp only [go_sem, *]; done)); (focus (simp only [go_sem, *]; done)); (focus (simp only [go_sem, *]; done)); (focus (first | rfl | (simp only [go_sem, *]; done))); (with_reducible first | apply runD_go Cl.zero_plain | apply runD_goC); simp only [go_sem, *, Heap.set_set])
    | ((with_reducible apply run_end Try.func73 res73 (H' := H.set l.c (.cells (rowM (s.setTd (k : Int) (X.setReg 1 (s.var 3))) l) 119))); (focus (simp only [go_sem, *]; rfl)); (focus trivial); (focus (repeat (first | assumption | exact Heap.sub_refl _ | refine Heap.sub_congr ?_ | refine Heap.sub_set ?_ (by assumption) | refine Heap.sub_set2 ?_ (by first | assumption | (simp only [*]; done) | (simp only [Heap.set_none', ne_eq, *, not_false_eq_true, and_self]; done)))))))
      exact ⟨rfl, rfl⟩

set_option maxHeartbeats 4000000 in
theorem store_call (W : World) (H : Heap) (l : Lo) (s : St) (k : Nat) (i : In) (h : AtP H l s) (hk : k < s.ts.length) (hr : i.r = 0 ∨ i.r = 1) (hx : i.x = 0 ∨ i.x = 1 ∨ i.x = 2 ∨ i.x = 3) :
    CallA Try.prog W 74 [.v (.pointer (some ⟨l.b, 0, none⟩)), .v (.int .i64 (k : Int)), .agg (inC i)] H fun r H' => r = .tup [] ∧ H' = stP H l (s.setVar i.x ((s.td k).reg i.r)) := by
  refine call_in Try.func74 rfl Try.ntmps74 (by simp) ?_
  unfold stP
  rw [stH_cell h (rowM_var _ _ _ _)]
  have hb := h.cell
  have hc := h.hc
  have hne := h.ne
  have hcap := h.cap
  have hne' : l.c ≠ l.b := fun e => hne e.symm
  have htd : s.td (k : Int) = s.ts.getD k default := rfl
  try rw [htd]
  clear htd h
  obtain ⟨q0, q1, q2, q3, p0, p1, p2, p3, m0, m1, m2, m3, n0, n1, n2, n3⟩ := rowF s l hk
  have HRW : Hid (∀ s' : St, rowM s' l = (tdsC s'.ts).flatten ++ l.rest) := fun s' => rfl
  generalize hX : s.ts.getD k default = X at *
  generalize hR : rowM s l = R at *
  obtain ⟨ik, ir, ix, iq⟩ := i
  simp only at hr hx ⊢
  rcases hr with rfl | rfl
  · rcases hx with rfl | rfl | rfl | rfl
    · repeat' (first
    | (with_reducible apply run_seq)
    | ((with_reducible apply run_go); simp only [go_sem, *])
    | ((with_reducible apply run_drawGo Cl.zero Cl.zero_plain mixed); (focus kernel_rfl); simp only [go_sem, *])
    | ((with_reducible apply runO_box); (focus (simp only [go_sem, *]; done)); intro pb hpb; have hfb := Heap.ne_of_none hpb; (try simp only [Heap.set_none'] at hpb); (with_reducible apply runO_go); simp only [go_sem, *])
    | ((with_reducible apply runD_store); (focus (simp only [go_sem]; rfl)); (focus (simp only [go_sem, *]; rfl)); (focus (simp only [go_sem, *]; rfl)); (focus (simp only [go_sem, *]; done)); (focus (simp only [go_sem, *]; done)); (focus (simp only [go_sem, *]; done)); (focus (first | rfl | (simp only [go_sem, *]; done))); (with_reducible first | apply runD_go Cl.zero_plain | apply runD_goC); simp only [go_sem, *, Heap.set_set])
    | ((with_reducible apply run_end Try.func74 res74 (H' := H.set l.b (.cells (stM (s.setVar 0 (X.reg 0)) l) 117))); (focus (simp only [go_sem, *]; rfl)); (focus trivial); (focus (repeat (first | assumption | exact Heap.sub_refl _ | refine Heap.sub_congr ?_ | refine Heap.sub_set ?_ (by assumption) | refine Heap.sub_set2 ?_ (by first | assumption | (simp only [*]; done) | (simp only [Heap.set_none', ne_eq, *, not_false_eq_true, and_self]; done)))))))
      exact ⟨rfl, rfl⟩
    · repeat' (first
    | (with_reducible apply run_seq)
    | ((with_reducible apply run_go); simp only [go_sem, *])
    | ((with_reducible apply run_drawGo Cl.zero Cl.zero_plain mixed); (focus kernel_rfl); simp only [go_sem, *])
    | ((with_reducible apply runO_box); (focus (simp only [go_sem, *]; done)); intro pb hpb; have hfb := Heap.ne_of_none hpb; (try simp only [Heap.set_none'] at hpb); (with_reducible apply runO_go); simp only [go_sem, *])
    | ((with_reducible apply runD_store); (focus (simp only [go_sem]; rfl)); (focus (simp only [go_sem, *]; rfl)); (focus (simp only [go_sem, *]; rfl)); (focus (simp only [go_sem, *]; done)); (focus (simp only [go_sem, *]; done)); (focus (simp only [go_sem, *]; done)); (focus (first | rfl | (simp only [go_sem, *]; done))); (with_reducible first | apply runD_go Cl.zero_plain | apply runD_goC); simp only [go_sem, *, Heap.set_set])
    | ((with_reducible apply run_end Try.func74 res74 (H' := H.set l.b (.cells (stM (s.setVar 1 (X.reg 0)) l) 117))); (focus (simp only [go_sem, *]; rfl)); (focus trivial); (focus (repeat (first | assumption | exact Heap.sub_refl _ | refine Heap.sub_congr ?_ | refine Heap.sub_set ?_ (by assumption) | refine Heap.sub_set2 ?_ (by first | assumption | (simp only [*]; done) | (simp only [Heap.set_none', ne_eq, *, not_false_eq_true, and_self]; done)))))))
      exact ⟨rfl, rfl⟩
    · repeat' (first
    | (with_reducible apply run_seq)
    | ((with_reducible apply run_go); simp only [go_sem, *])
    | ((with_reducible apply run_drawGo Cl.zero Cl.zero_plain mixed); (focus kernel_rfl); simp only [go_sem, *])
    | ((with_reducible apply runO_box); (focus (simp only [go_sem, *]; done)); intro pb hpb; have hfb := Heap.ne_of_none hpb; (try simp only [Heap.set_none'] at hpb); (with_reducible apply runO_go); simp only [go_sem, *])
    | ((with_reducible apply runD_store); (focus (simp only [go_sem]; rfl)); (focus (simp only [go_sem, *]; rfl)); (focus (simp only [go_sem, *]; rfl)); (focus (simp only [go_sem, *]; done)); (focus (simp only [go_sem, *]; done)); (focus (simp only [go_sem, *]; done)); (focus (first | rfl | (simp only [go_sem, *]; done))); (with_reducible first | apply runD_go Cl.zero_plain | apply runD_goC); simp only [go_sem, *, Heap.set_set])
    | ((with_reducible apply run_end Try.func74 res74 (H' := H.set l.b (.cells (stM (s.setVar 2 (X.reg 0)) l) 117))); (focus (simp only [go_sem, *]; rfl)); (focus trivial); (focus (repeat (first | assumption | exact Heap.sub_refl _ | refine Heap.sub_congr ?_ | refine Heap.sub_set ?_ (by assumption) | refine Heap.sub_set2 ?_ (by first | assumption | (simp only [*]; done) | (simp only [Heap.set_none', ne_eq, *, not_false_eq_true, and_self]; done)))))))
      exact ⟨rfl, rfl⟩
    · repeat' (first
    | (with_reducible apply run_seq)
    | ((with_reducible apply run_go); simp only [go_sem, *])
    | ((with_reducible apply run_drawGo Cl.zero Cl.zero_plain mixed); (focus kernel_rfl); simp only [go_sem, *])
    | ((with_reducible apply runO_box); (focus (simp only [go_sem, *]; done)); intro pb hpb; have hfb := Heap.ne_of_none hpb; (try simp only [Heap.set_none'] at hpb); (with_reducible apply runO_go); simp only [go_sem, *])
    | ((with_reducible apply runD_store); (focus (simp only [go_sem]; rfl)); (focus (simp only [go_sem, *]; rfl)); (focus (simp only [go_sem, *]; rfl)); (focus (simp only [go_sem, *]; done)); (focus (simp only [go_sem, *]; done)); (focus (simp only [go_sem, *]; done)); (focus (first | rfl | (simp only [go_sem, *]; done))); (with_reducible first | apply runD_go Cl.zero_plain | apply runD_goC); simp only [go_sem, *, Heap.set_set])
    | ((with_reducible apply run_end Try.func74 res74 (H' := H.set l.b (.cells (stM (s.setVar 3 (X.reg 0)) l) 117))); (focus (simp only [go_sem, *]; rfl)); (focus trivial); (focus (repeat (first | assumption | exact Heap.sub_refl _ | refine Heap.sub_congr ?_ | refine Heap.sub_set ?_ (by assumption) | refine Heap.sub_set2 ?_ (by first | assumption | (simp only [*]; done) | (simp only [Heap.set_none', ne_eq, *, not_false_eq_true, and_self]; done)))))))
      exact ⟨rfl, rfl⟩
  · rcases hx with rfl | rfl | rfl | rfl
    · repeat' (first
    | (with_reducible apply run_seq)
    | ((with_reducible apply run_go); simp only [go_sem, *])
    | ((with_reducible apply run_drawGo Cl.zero Cl.zero_plain mixed); (focus kernel_rfl); simp only [go_sem, *])
    | ((with_reducible apply runO_box); (focus (simp only [go_sem, *]; done)); intro pb hpb; have hfb := Heap.ne_of_none hpb; (try simp only [Heap.set_none'] at hpb); (with_reducible apply runO_go); simp only [go_sem, *])
    | ((with_reducible apply runD_store); (focus (simp only [go_sem]; rfl)); (focus (simp only [go_sem, *]; rfl)); (focus (simp only [go_sem, *]; rfl)); (focus (simp only [go_sem, *]; done)); (focus (simp only [go_sem, *]; done)); (focus (simp only [go_sem, *]; done)); (focus (first | rfl | (simp only [go_sem, *]; done))); (with_reducible first | apply runD_go Cl.zero_plain | apply runD_goC); simp only [go_sem, *, Heap.set_set])
    | ((with_reducible apply run_end Try.func74 res74 (H' := H.set l.b (.cells (stM (s.setVar 0 (X.reg 1)) l) 117))); (focus (simp only [go_sem, *]; rfl)); (focus trivial); (focus (repeat (first | assumption | exact Heap.sub_refl _ | refine Heap.sub_congr ?_ | refine Heap.sub_set ?_ (by assumption) | refine Heap.sub_set2 ?_ (by first | assumption | (simp only [*]; done) | (simp only [Heap.set_none', ne_eq, *, not_false_eq_true, and_self]; done)))))))
      exact ⟨rfl, rfl⟩
    · repeat' (first
    | (with_reducible apply run_seq)
    | ((with_reducible apply run_go); simp only [go_sem, *])
    | ((with_reducible apply run_drawGo Cl.zero Cl.zero_plain mixed); (focus kernel_rfl); simp only [go_sem, *])
    | ((with_reducible apply runO_box); (focus (simp only [go_sem, *]; done)); intro pb hpb; have hfb := Heap.ne_of_none hpb; (try simp only [Heap.set_none'] at hpb); (with_reducible apply runO_go); simp only [go_sem, *])
    | ((with_reducible apply runD_store); (focus (simp only [go_sem]; rfl)); (focus (simp only [go_sem, *]; rfl)); (focus (simp only [go_sem, *]; rfl)); (focus (simp only [go_sem, *]; done)); (focus (simp only [go_sem, *]; done)); (focus (simp only [go_sem, *]; done)); (focus (first | rfl | (simp only [go_sem, *]; done))); (with_reducible first | apply runD_go Cl.zero_plain | apply runD_goC); simp only [go_sem, *, Heap.set_set])
    | ((with_reducible apply run_end Try.func74 res74 (H' := H.set l.b (.cells (stM (s.setVar 1 (X.reg 1)) l) 117))); (focus (simp only [go_sem, *]; rfl)); (focus trivial); (focus (repeat (first | assumption | exact Heap.sub_refl _ | refine Heap.sub_congr ?_ | refine Heap.sub_set ?_ (by assumption) | refine Heap.sub_set2 ?_ (by first | assumption | (simp only [*]; done) | (simp only [Heap.set_none', ne_eq, *, not_false_eq_true, and_self]; done)))))))
      exact ⟨rfl, rfl⟩
    · repeat' (first
    | (with_reducible apply run_seq)
    | ((with_reducible apply run_go); simp only [go_sem, *])
    | ((with_reducible apply run_drawGo Cl.zero Cl.zero_plain mixed); (focus kernel_rfl); simp only [go_sem, *])
    | ((with_reducible apply runO_box); (focus (simp only [go_sem, *]; done)); intro pb hpb; have hfb := Heap.ne_of_none hpb; (try simp only [Heap.set_none'] at hpb); (with_reducible apply runO_go); simp only [go_sem, *])
    | ((with_reducible apply runD_store); (focus (simp only [go_sem]; rfl)); (focus (simp only [go_sem, *]; rfl)); (focus (simp only [go_sem, *]; rfl)); (focus (simp only [go_sem, *]; done)); (focus (simp only [go_sem, *]; done)); (focus (simp only [go_sem, *]; done)); (focus (first | rfl | (simp only [go_sem, *]; done))); (with_reducible first | apply runD_go Cl.zero_plain | apply runD_goC); simp only [go_sem, *, Heap.set_set])
    | ((with_reducible apply run_end Try.func74 res74 (H' := H.set l.b (.cells (stM (s.setVar 2 (X.reg 1)) l) 117))); (focus (simp only [go_sem, *]; rfl)); (focus trivial); (focus (repeat (first | assumption | exact Heap.sub_refl _ | refine Heap.sub_congr ?_ | refine Heap.sub_set ?_ (by assumption) | refine Heap.sub_set2 ?_ (by first | assumption | (simp only [*]; done) | (simp only [Heap.set_none', ne_eq, *, not_false_eq_true, and_self]; done)))))))
      exact ⟨rfl, rfl⟩
    · repeat' (first
    | (with_reducible apply run_seq)
    | ((with_reducible apply run_go); simp only [go_sem, *])
    | ((with_reducible apply run_drawGo Cl.zero Cl.zero_plain mixed); (focus kernel_rfl); simp only [go_sem, *])
    | ((with_reducible apply runO_box); (focus (simp only [go_sem, *]; done)); intro pb hpb; have hfb := Heap.ne_of_none hpb; (try simp only [Heap.set_none'] at hpb); (with_reducible apply runO_go); simp only [go_sem, *])
    | ((with_reducible apply runD_store); (focus (simp only [go_sem]; rfl)); (focus (simp only [go_sem, *]; rfl)); (focus (simp only [go_sem, *]; rfl)); (focus (simp only [go_sem, *]; done)); (focus (simp only [go_sem, *]; done)); (focus (simp only [go_sem, *]; done)); (focus (first | rfl | (simp only [go_sem, *]; done))); (with_reducible first | apply runD_go Cl.zero_plain | apply runD_goC); simp only [go_sem, *, Heap.set_set])
    | ((with_reducible apply run_end Try.func74 res74 (H' := H.set l.b (.cells (stM (s.setVar 3 (X.reg 1)) l) 117))); (focus (simp only [go_sem, *]; rfl)); (focus trivial); (focus (repeat (first | assumption | exact Heap.sub_refl _ | refine Heap.sub_congr ?_ | refine Heap.sub_set ?_ (by assumption) | refine Heap.sub_set2 ?_ (by first | assumption | (simp only [*]; done) | (simp only [Heap.set_none', ne_eq, *, not_false_eq_true, and_self]; done)))))))
      exact ⟨rfl, rfl⟩

set_option maxHeartbeats 4000000 in
theorem set_call (W : World) (H : Heap) (l : Lo) (s : St) (k : Nat) (i : In) (h : AtP H l s) (hk : k < s.ts.length) (hr : i.r = 0 ∨ i.r = 1) :
    CallA Try.prog W 75 [.v (.pointer (some ⟨l.b, 0, none⟩)), .v (.int .i64 (k : Int)), .agg (inC i)] H fun r H' => r = .tup [] ∧ H' = stP H l (s.setTd k ((s.td k).setReg i.r i.n)) := by
  refine call_in Try.func75 rfl Try.ntmps75 (by simp) ?_
  unfold stP
  rw [stH_row h (stM_td _ _ _ _)]
  have hb := h.cell
  have hc := h.hc
  have hne := h.ne
  have hcap := h.cap
  have hne' : l.c ≠ l.b := fun e => hne e.symm
  have htd : s.td (k : Int) = s.ts.getD k default := rfl
  try rw [htd]
  clear htd h
  obtain ⟨q0, q1, q2, q3, p0, p1, p2, p3, m0, m1, m2, m3, n0, n1, n2, n3⟩ := rowF s l hk
  have HRW : Hid (∀ s' : St, rowM s' l = (tdsC s'.ts).flatten ++ l.rest) := fun s' => rfl
  generalize hX : s.ts.getD k default = X at *
  generalize hR : rowM s l = R at *
  obtain ⟨ik, ir, ix, iq⟩ := i
  simp only at hr ⊢
  rcases hr with rfl | rfl
  · repeat' (first
    | (with_reducible apply run_seq)
    | ((with_reducible apply run_go); simp only [go_sem, *])
    | ((with_reducible apply run_drawGo Cl.zero Cl.zero_plain mixed); (focus kernel_rfl); simp only [go_sem, *])
    | ((with_reducible apply runO_box); (focus (simp only [go_sem, *]; done)); intro pb hpb; have hfb := Heap.ne_of_none hpb; (try simp only [Heap.set_none'] at hpb); (with_reducible apply runO_go); simp only [go_sem, *])
    | ((with_reducible apply runD_store); (focus (simp only [go_sem]; rfl)); (focus (simp only [go_sem, *]; rfl)); (focus (simp only [go_sem, *]; rfl)); (focus (simp only [go_sem, *]; done)); (focus (simp only [go_sem, *]; done)); (focus (simp only [go_sem, *]; done)); (focus (first | rfl | (simp only [go_sem, *]; done))); (with_reducible first | apply runD_go Cl.zero_plain | apply runD_goC); simp only [go_sem, *, Heap.set_set])
    | ((with_reducible apply run_end Try.func75 res75 (H' := H.set l.c (.cells (rowM (s.setTd (k : Int) (X.setReg 0 iq)) l) 119))); (focus (simp only [go_sem, *]; rfl)); (focus trivial); (focus (repeat (first | assumption | exact Heap.sub_refl _ | refine Heap.sub_congr ?_ | refine Heap.sub_set ?_ (by assumption) | refine Heap.sub_set2 ?_ (by first | assumption | (simp only [*]; done) | (simp only [Heap.set_none', ne_eq, *, not_false_eq_true, and_self]; done)))))))
    exact ⟨rfl, rfl⟩
  · repeat' (first
    | (with_reducible apply run_seq)
    | ((with_reducible apply run_go); simp only [go_sem, *])
    | ((with_reducible apply run_drawGo Cl.zero Cl.zero_plain mixed); (focus kernel_rfl); simp only [go_sem, *])
    | ((with_reducible apply runO_box); (focus (simp only [go_sem, *]; done)); intro pb hpb; have hfb := Heap.ne_of_none hpb; (try simp only [Heap.set_none'] at hpb); (with_reducible apply runO_go); simp only [go_sem, *])
    | ((with_reducible apply runD_store); (focus (simp only [go_sem]; rfl)); (focus (simp only [go_sem, *]; rfl)); (focus (simp only [go_sem, *]; rfl)); (focus (simp only [go_sem, *]; done)); (focus (simp only [go_sem, *]; done)); (focus (simp only [go_sem, *]; done)); (focus (first | rfl | (simp only [go_sem, *]; done))); (with_reducible first | apply runD_go Cl.zero_plain | apply runD_goC); simp only [go_sem, *, Heap.set_set])
    | ((with_reducible apply run_end Try.func75 res75 (H' := H.set l.c (.cells (rowM (s.setTd (k : Int) (X.setReg 1 iq)) l) 119))); (focus (simp only [go_sem, *]; rfl)); (focus trivial); (focus (repeat (first | assumption | exact Heap.sub_refl _ | refine Heap.sub_congr ?_ | refine Heap.sub_set ?_ (by assumption) | refine Heap.sub_set2 ?_ (by first | assumption | (simp only [*]; done) | (simp only [Heap.set_none', ne_eq, *, not_false_eq_true, and_self]; done)))))))
    exact ⟨rfl, rfl⟩

set_option maxHeartbeats 4000000 in
theorem add_call (W : World) (H : Heap) (l : Lo) (s : St) (k : Nat) (i : In) (h : AtP H l s) (hk : k < s.ts.length) (hr : i.r = 0 ∨ i.r = 1) :
    CallA Try.prog W 76 [.v (.pointer (some ⟨l.b, 0, none⟩)), .v (.int .i64 (k : Int)), .agg (inC i)] H fun r H' => r = .tup [] ∧ H' = stP H l (s.setTd k ((s.td k).setReg i.r (IntKind.i64.wrap ((s.td k).reg i.r + i.n)))) := by
  refine call_in Try.func76 rfl Try.ntmps76 (by simp) ?_
  unfold stP
  rw [stH_row h (stM_td _ _ _ _)]
  have hb := h.cell
  have hc := h.hc
  have hne := h.ne
  have hcap := h.cap
  have hne' : l.c ≠ l.b := fun e => hne e.symm
  have htd : s.td (k : Int) = s.ts.getD k default := rfl
  try rw [htd]
  clear htd h
  obtain ⟨q0, q1, q2, q3, p0, p1, p2, p3, m0, m1, m2, m3, n0, n1, n2, n3⟩ := rowF s l hk
  have HRW : Hid (∀ s' : St, rowM s' l = (tdsC s'.ts).flatten ++ l.rest) := fun s' => rfl
  generalize hX : s.ts.getD k default = X at *
  generalize hR : rowM s l = R at *
  obtain ⟨ik, ir, ix, iq⟩ := i
  simp only at hr ⊢
  rcases hr with rfl | rfl
  · repeat' (first
    | (with_reducible apply run_seq)
    | ((with_reducible apply run_go); simp only [go_sem, *])
    | ((with_reducible apply run_drawGo Cl.zero Cl.zero_plain mixed); (focus kernel_rfl); simp only [go_sem, *])
    | ((with_reducible apply runO_box); (focus (simp only [go_sem, *]; done)); intro pb hpb; have hfb := Heap.ne_of_none hpb; (try simp only [Heap.set_none'] at hpb); (with_reducible apply runO_go); simp only [go_sem, *])
    | ((with_reducible apply runD_store); (focus (simp only [go_sem]; rfl)); (focus (simp only [go_sem, *]; rfl)); (focus (simp only [go_sem, *]; rfl)); (focus (simp only [go_sem, *]; done)); (focus (simp only [go_sem, *]; done)); (focus (simp only [go_sem, *]; done)); (focus (first | rfl | (simp only [go_sem, *]; done))); (with_reducible first | apply runD_go Cl.zero_plain | apply runD_goC); simp only [go_sem, *, Heap.set_set])
    | ((with_reducible apply run_end Try.func76 res76 (H' := H.set l.c (.cells (rowM (s.setTd (k : Int) (X.setReg 0 (IntKind.i64.wrap (X.reg 0 + iq)))) l) 119))); (focus (simp only [go_sem, *]; rfl)); (focus trivial); (focus (repeat (first | assumption | exact Heap.sub_refl _ | refine Heap.sub_congr ?_ | refine Heap.sub_set ?_ (by assumption) | refine Heap.sub_set2 ?_ (by first | assumption | (simp only [*]; done) | (simp only [Heap.set_none', ne_eq, *, not_false_eq_true, and_self]; done)))))))
    exact ⟨rfl, rfl⟩
  · repeat' (first
    | (with_reducible apply run_seq)
    | ((with_reducible apply run_go); simp only [go_sem, *])
    | ((with_reducible apply run_drawGo Cl.zero Cl.zero_plain mixed); (focus kernel_rfl); simp only [go_sem, *])
    | ((with_reducible apply runO_box); (focus (simp only [go_sem, *]; done)); intro pb hpb; have hfb := Heap.ne_of_none hpb; (try simp only [Heap.set_none'] at hpb); (with_reducible apply runO_go); simp only [go_sem, *])
    | ((with_reducible apply runD_store); (focus (simp only [go_sem]; rfl)); (focus (simp only [go_sem, *]; rfl)); (focus (simp only [go_sem, *]; rfl)); (focus (simp only [go_sem, *]; done)); (focus (simp only [go_sem, *]; done)); (focus (simp only [go_sem, *]; done)); (focus (first | rfl | (simp only [go_sem, *]; done))); (with_reducible first | apply runD_go Cl.zero_plain | apply runD_goC); simp only [go_sem, *, Heap.set_set])
    | ((with_reducible apply run_end Try.func76 res76 (H' := H.set l.c (.cells (rowM (s.setTd (k : Int) (X.setReg 1 (IntKind.i64.wrap (X.reg 1 + iq)))) l) 119))); (focus (simp only [go_sem, *]; rfl)); (focus trivial); (focus (repeat (first | assumption | exact Heap.sub_refl _ | refine Heap.sub_congr ?_ | refine Heap.sub_set ?_ (by assumption) | refine Heap.sub_set2 ?_ (by first | assumption | (simp only [*]; done) | (simp only [Heap.set_none', ne_eq, *, not_false_eq_true, and_self]; done)))))))
    exact ⟨rfl, rfl⟩

set_option maxHeartbeats 4000000 in
theorem lock_call (W : World) (H : Heap) (l : Lo) (s : St) (k : Nat) (i : In) (h : AtP H l s) (hk : k < s.ts.length) (hx : i.x = 0 ∨ i.x = 1) :
    CallA Try.prog W 77 [.v (.pointer (some ⟨l.b, 0, none⟩)), .v (.int .i64 (k : Int)), .agg (inC i)] H fun r H' => r = .tup [] ∧ H' = stP H l (s.setHol i.x k) := by
  refine call_in Try.func77 rfl Try.ntmps77 (by simp) ?_
  unfold stP
  rw [stH_cell h (rowM_hol _ _ _ _)]
  have hb := h.cell
  have hc := h.hc
  have hne := h.ne
  have hcap := h.cap
  have hne' : l.c ≠ l.b := fun e => hne e.symm
  have htd : s.td (k : Int) = s.ts.getD k default := rfl
  try rw [htd]
  clear htd h
  obtain ⟨q0, q1, q2, q3, p0, p1, p2, p3, m0, m1, m2, m3, n0, n1, n2, n3⟩ := rowF s l hk
  have HRW : Hid (∀ s' : St, rowM s' l = (tdsC s'.ts).flatten ++ l.rest) := fun s' => rfl
  generalize hX : s.ts.getD k default = X at *
  generalize hR : rowM s l = R at *
  obtain ⟨ik, ir, ix, iq⟩ := i
  simp only at hx ⊢
  rcases hx with rfl | rfl
  · repeat' (first
    | (with_reducible apply run_seq)
    | ((with_reducible apply run_go); simp only [go_sem, *])
    | ((with_reducible apply run_drawGo Cl.zero Cl.zero_plain mixed); (focus kernel_rfl); simp only [go_sem, *])
    | ((with_reducible apply runO_box); (focus (simp only [go_sem, *]; done)); intro pb hpb; have hfb := Heap.ne_of_none hpb; (try simp only [Heap.set_none'] at hpb); (with_reducible apply runO_go); simp only [go_sem, *])
    | ((with_reducible apply runD_store); (focus (simp only [go_sem]; rfl)); (focus (simp only [go_sem, *]; rfl)); (focus (simp only [go_sem, *]; rfl)); (focus (simp only [go_sem, *]; done)); (focus (simp only [go_sem, *]; done)); (focus (simp only [go_sem, *]; done)); (focus (first | rfl | (simp only [go_sem, *]; done))); (with_reducible first | apply runD_go Cl.zero_plain | apply runD_goC); simp only [go_sem, *, Heap.set_set])
    | ((with_reducible apply run_end Try.func77 res77 (H' := H.set l.b (.cells (stM (s.setHol 0 (k : Int)) l) 117))); (focus (simp only [go_sem, *]; rfl)); (focus trivial); (focus (repeat (first | assumption | exact Heap.sub_refl _ | refine Heap.sub_congr ?_ | refine Heap.sub_set ?_ (by assumption) | refine Heap.sub_set2 ?_ (by first | assumption | (simp only [*]; done) | (simp only [Heap.set_none', ne_eq, *, not_false_eq_true, and_self]; done)))))))
    exact ⟨rfl, rfl⟩
  · repeat' (first
    | (with_reducible apply run_seq)
    | ((with_reducible apply run_go); simp only [go_sem, *])
    | ((with_reducible apply run_drawGo Cl.zero Cl.zero_plain mixed); (focus kernel_rfl); simp only [go_sem, *])
    | ((with_reducible apply runO_box); (focus (simp only [go_sem, *]; done)); intro pb hpb; have hfb := Heap.ne_of_none hpb; (try simp only [Heap.set_none'] at hpb); (with_reducible apply runO_go); simp only [go_sem, *])
    | ((with_reducible apply runD_store); (focus (simp only [go_sem]; rfl)); (focus (simp only [go_sem, *]; rfl)); (focus (simp only [go_sem, *]; rfl)); (focus (simp only [go_sem, *]; done)); (focus (simp only [go_sem, *]; done)); (focus (simp only [go_sem, *]; done)); (focus (first | rfl | (simp only [go_sem, *]; done))); (with_reducible first | apply runD_go Cl.zero_plain | apply runD_goC); simp only [go_sem, *, Heap.set_set])
    | ((with_reducible apply run_end Try.func77 res77 (H' := H.set l.b (.cells (stM (s.setHol 1 (k : Int)) l) 117))); (focus (simp only [go_sem, *]; rfl)); (focus trivial); (focus (repeat (first | assumption | exact Heap.sub_refl _ | refine Heap.sub_congr ?_ | refine Heap.sub_set ?_ (by assumption) | refine Heap.sub_set2 ?_ (by first | assumption | (simp only [*]; done) | (simp only [Heap.set_none', ne_eq, *, not_false_eq_true, and_self]; done)))))))
    exact ⟨rfl, rfl⟩

set_option maxHeartbeats 4000000 in
theorem unlock_call (W : World) (H : Heap) (l : Lo) (s : St) (k : Nat) (i : In) (h : AtP H l s) (hk : k < s.ts.length) (hx : i.x = 0 ∨ i.x = 1) :
    CallA Try.prog W 78 [.v (.pointer (some ⟨l.b, 0, none⟩)), .v (.int .i64 (k : Int)), .agg (inC i)] H fun r H' => r = .tup [] ∧ H' = stP H l (if s.hol i.x = k then s.setHol i.x (-1) else s) := by
  refine call_in Try.func78 rfl Try.ntmps78 (by simp) ?_
  unfold stP
  have hb := h.cell
  have hc := h.hc
  have hne := h.ne
  have hcap := h.cap
  have hne' : l.c ≠ l.b := fun e => hne e.symm
  have htd : s.td (k : Int) = s.ts.getD k default := rfl
  try rw [htd]
  clear htd
  obtain ⟨q0, q1, q2, q3, p0, p1, p2, p3, m0, m1, m2, m3, n0, n1, n2, n3⟩ := rowF s l hk
  have HRW : Hid (∀ s' : St, rowM s' l = (tdsC s'.ts).flatten ++ l.rest) := fun s' => rfl
  generalize hX : s.ts.getD k default = X at *
  generalize hR : rowM s l = R at *
  obtain ⟨ik, ir, ix, iq⟩ := i
  simp only at hx ⊢
  rcases hx with rfl | rfl
  · by_cases he : s.h0 = (k : Int)
    · have e : s.hol 0 = (k : Int) := he
      rw [if_pos e, stH_cell h (rowM_hol _ _ _ _)]
      clear e h
      repeat' (first
    | (with_reducible apply run_seq)
    | ((with_reducible apply run_go); simp only [go_sem, *])
    | ((with_reducible apply run_drawGo Cl.zero Cl.zero_plain mixed); (focus kernel_rfl); simp only [go_sem, *])
    | ((with_reducible apply run_cond_t); (focus (simp only [go_sem, *]; done)))
    | ((with_reducible apply runO_box); (focus (simp only [go_sem, *]; done)); intro pb hpb; have hfb := Heap.ne_of_none hpb; (try simp only [Heap.set_none'] at hpb); (with_reducible apply runO_go); simp only [go_sem, *])
    | ((with_reducible apply runD_store); (focus (simp only [go_sem]; rfl)); (focus (simp only [go_sem, *]; rfl)); (focus (simp only [go_sem, *]; rfl)); (focus (simp only [go_sem, *]; done)); (focus (simp only [go_sem, *]; done)); (focus (simp only [go_sem, *]; done)); (focus (first | rfl | (simp only [go_sem, *]; done))); (with_reducible first | apply runD_go Cl.zero_plain | apply runD_goC); simp only [go_sem, *, Heap.set_set])
    | ((with_reducible apply run_end Try.func78 res78 (H' := H.set l.b (.cells (stM (s.setHol 0 (-1)) l) 117))); (focus (simp only [go_sem, *]; rfl)); (focus trivial); (focus (repeat (first | assumption | exact Heap.sub_refl _ | refine Heap.sub_congr ?_ | refine Heap.sub_set ?_ (by assumption) | refine Heap.sub_set2 ?_ (by first | assumption | (simp only [*]; done) | (simp only [Heap.set_none', ne_eq, *, not_false_eq_true, and_self]; done)))))))
      exact ⟨rfl, rfl⟩
    · have e : ¬ s.hol 0 = (k : Int) := he
      rw [if_neg e, stH_self h]
      clear e h
      repeat' (first
    | (with_reducible apply run_seq)
    | (with_reducible apply run_skip)
    | ((with_reducible apply run_go); simp only [go_sem, *])
    | ((with_reducible apply run_drawGo Cl.zero Cl.zero_plain mixed); (focus kernel_rfl); simp only [go_sem, *])
    | ((with_reducible apply run_cond_f); (focus (simp only [go_sem, *]; done)))
    | ((with_reducible apply runO_box); (focus (simp only [go_sem, *]; done)); intro pb hpb; have hfb := Heap.ne_of_none hpb; (try simp only [Heap.set_none'] at hpb); (with_reducible apply runO_go); simp only [go_sem, *])
    | ((with_reducible apply run_end Try.func78 res78 (H' := H)); (focus (simp only [go_sem, *]; rfl)); (focus trivial); (focus (repeat (first | assumption | exact Heap.sub_refl _ | refine Heap.sub_congr ?_ | refine Heap.sub_set ?_ (by assumption) | refine Heap.sub_set2 ?_ (by first | assumption | (simp only [*]; done) | (simp only [Heap.set_none', ne_eq, *, not_false_eq_true, and_self]; done)))))))
      exact ⟨rfl, rfl⟩
  · by_cases he : s.h1 = (k : Int)
    · have e : s.hol 1 = (k : Int) := he
      rw [if_pos e, stH_cell h (rowM_hol _ _ _ _)]
      clear e h
      repeat' (first
    | (with_reducible apply run_seq)
    | ((with_reducible apply run_go); simp only [go_sem, *])
    | ((with_reducible apply run_drawGo Cl.zero Cl.zero_plain mixed); (focus kernel_rfl); simp only [go_sem, *])
    | ((with_reducible apply run_cond_t); (focus (simp only [go_sem, *]; done)))
    | ((with_reducible apply runO_box); (focus (simp only [go_sem, *]; done)); intro pb hpb; have hfb := Heap.ne_of_none hpb; (try simp only [Heap.set_none'] at hpb); (with_reducible apply runO_go); simp only [go_sem, *])
    | ((with_reducible apply runD_store); (focus (simp only [go_sem]; rfl)); (focus (simp only [go_sem, *]; rfl)); (focus (simp only [go_sem, *]; rfl)); (focus (simp only [go_sem, *]; done)); (focus (simp only [go_sem, *]; done)); (focus (simp only [go_sem, *]; done)); (focus (first | rfl | (simp only [go_sem, *]; done))); (with_reducible first | apply runD_go Cl.zero_plain | apply runD_goC); simp only [go_sem, *, Heap.set_set])
    | ((with_reducible apply run_end Try.func78 res78 (H' := H.set l.b (.cells (stM (s.setHol 1 (-1)) l) 117))); (focus (simp only [go_sem, *]; rfl)); (focus trivial); (focus (repeat (first | assumption | exact Heap.sub_refl _ | refine Heap.sub_congr ?_ | refine Heap.sub_set ?_ (by assumption) | refine Heap.sub_set2 ?_ (by first | assumption | (simp only [*]; done) | (simp only [Heap.set_none', ne_eq, *, not_false_eq_true, and_self]; done)))))))
      exact ⟨rfl, rfl⟩
    · have e : ¬ s.hol 1 = (k : Int) := he
      rw [if_neg e, stH_self h]
      clear e h
      repeat' (first
    | (with_reducible apply run_seq)
    | (with_reducible apply run_skip)
    | ((with_reducible apply run_go); simp only [go_sem, *])
    | ((with_reducible apply run_drawGo Cl.zero Cl.zero_plain mixed); (focus kernel_rfl); simp only [go_sem, *])
    | ((with_reducible apply run_cond_f); (focus (simp only [go_sem, *]; done)))
    | ((with_reducible apply runO_box); (focus (simp only [go_sem, *]; done)); intro pb hpb; have hfb := Heap.ne_of_none hpb; (try simp only [Heap.set_none'] at hpb); (with_reducible apply runO_go); simp only [go_sem, *])
    | ((with_reducible apply run_end Try.func78 res78 (H' := H)); (focus (simp only [go_sem, *]; rfl)); (focus trivial); (focus (repeat (first | assumption | exact Heap.sub_refl _ | refine Heap.sub_congr ?_ | refine Heap.sub_set ?_ (by assumption) | refine Heap.sub_set2 ?_ (by first | assumption | (simp only [*]; done) | (simp only [Heap.set_none', ne_eq, *, not_false_eq_true, and_self]; done)))))))
      exact ⟨rfl, rfl⟩

set_option maxHeartbeats 4000000 in
theorem jump_call (W : World) (H : Heap) (l : Lo) (s : St) (k : Nat) (i : In) (h : AtP H l s) (hk : k < s.ts.length) (hr : i.r = 0 ∨ i.r = 1) :
    CallA Try.prog W 79 [.v (.pointer (some ⟨l.b, 0, none⟩)), .v (.int .i64 (k : Int)), .agg (inC i)] H fun r H' => r = .tup [] ∧ H' = stP H l (if (s.td k).reg i.r = 0 then s else s.setTd k { s.td k with pc := i.x }) := by
  refine call_in Try.func79 rfl Try.ntmps79 (by simp) ?_
  unfold stP
  have hb := h.cell
  have hc := h.hc
  have hne := h.ne
  have hcap := h.cap
  have hne' : l.c ≠ l.b := fun e => hne e.symm
  have htd : s.td (k : Int) = s.ts.getD k default := rfl
  try rw [htd]
  clear htd
  obtain ⟨q0, q1, q2, q3, p0, p1, p2, p3, m0, m1, m2, m3, n0, n1, n2, n3⟩ := rowF s l hk
  have HRW : Hid (∀ s' : St, rowM s' l = (tdsC s'.ts).flatten ++ l.rest) := fun s' => rfl
  generalize hX : s.ts.getD k default = X at *
  generalize hR : rowM s l = R at *
  obtain ⟨ik, ir, ix, iq⟩ := i
  simp only at hr ⊢
  rcases hr with rfl | rfl
  · by_cases he : X.r0 = 0
    · have e : X.reg 0 = 0 := he
      rw [if_pos e, stH_self h]
      clear e h
      repeat' (first
    | (with_reducible apply run_seq)
    | (with_reducible apply run_skip)
    | ((with_reducible apply run_go); simp only [go_sem, *])
    | ((with_reducible apply run_drawGo Cl.zero Cl.zero_plain mixed); (focus kernel_rfl); simp only [go_sem, *])
    | ((with_reducible apply run_cond_f); (focus (simp only [go_sem, *]; done)))
    | ((with_reducible apply runO_box); (focus (simp only [go_sem, *]; done)); intro pb hpb; have hfb := Heap.ne_of_none hpb; (try simp only [Heap.set_none'] at hpb); (with_reducible apply runO_go); simp only [go_sem, *])
    | ((with_reducible apply run_end Try.func79 res79 (H' := H)); (focus (simp only [go_sem, *]; rfl)); (focus trivial); (focus (repeat (first | assumption | exact Heap.sub_refl _ | refine Heap.sub_congr ?_ | refine Heap.sub_set ?_ (by assumption) | refine Heap.sub_set2 ?_ (by first | assumption | (simp only [*]; done) | (simp only [Heap.set_none', ne_eq, *, not_false_eq_true, and_self]; done)))))))
      exact ⟨rfl, rfl⟩
    · have e : ¬ X.reg 0 = 0 := he
      rw [if_neg e, stH_row h (stM_td _ _ _ _)]
      clear e h
      repeat' (first
    | (with_reducible apply run_seq)
    | ((with_reducible apply run_go); simp only [go_sem, *])
    | ((with_reducible apply run_drawGo Cl.zero Cl.zero_plain mixed); (focus kernel_rfl); simp only [go_sem, *])
    | ((with_reducible apply run_cond_t); (focus (simp only [go_sem, *]; done)))
    | ((with_reducible apply runO_box); (focus (simp only [go_sem, *]; done)); intro pb hpb; have hfb := Heap.ne_of_none hpb; (try simp only [Heap.set_none'] at hpb); (with_reducible apply runO_go); simp only [go_sem, *])
    | ((with_reducible apply runD_store); (focus (simp only [go_sem]; rfl)); (focus (simp only [go_sem, *]; rfl)); (focus (simp only [go_sem, *]; rfl)); (focus (simp only [go_sem, *]; done)); (focus (simp only [go_sem, *]; done)); (focus (simp only [go_sem, *]; done)); (focus (first | rfl | (simp only [go_sem, *]; done))); (with_reducible first | apply runD_go Cl.zero_plain | apply runD_goC); simp only [go_sem, *, Heap.set_set])
    | ((with_reducible apply run_end Try.func79 res79 (H' := H.set l.c (.cells (rowM (s.setTd (k : Int) ({ X with pc := ix })) l) 119))); (focus (simp only [go_sem, *]; rfl)); (focus trivial); (focus (repeat (first | assumption | exact Heap.sub_refl _ | refine Heap.sub_congr ?_ | refine Heap.sub_set ?_ (by assumption) | refine Heap.sub_set2 ?_ (by first | assumption | (simp only [*]; done) | (simp only [Heap.set_none', ne_eq, *, not_false_eq_true, and_self]; done)))))))
      exact ⟨rfl, rfl⟩
  · by_cases he : X.r1 = 0
    · have e : X.reg 1 = 0 := he
      rw [if_pos e, stH_self h]
      clear e h
      repeat' (first
    | (with_reducible apply run_seq)
    | (with_reducible apply run_skip)
    | ((with_reducible apply run_go); simp only [go_sem, *])
    | ((with_reducible apply run_drawGo Cl.zero Cl.zero_plain mixed); (focus kernel_rfl); simp only [go_sem, *])
    | ((with_reducible apply run_cond_f); (focus (simp only [go_sem, *]; done)))
    | ((with_reducible apply runO_box); (focus (simp only [go_sem, *]; done)); intro pb hpb; have hfb := Heap.ne_of_none hpb; (try simp only [Heap.set_none'] at hpb); (with_reducible apply runO_go); simp only [go_sem, *])
    | ((with_reducible apply run_end Try.func79 res79 (H' := H)); (focus (simp only [go_sem, *]; rfl)); (focus trivial); (focus (repeat (first | assumption | exact Heap.sub_refl _ | refine Heap.sub_congr ?_ | refine Heap.sub_set ?_ (by assumption) | refine Heap.sub_set2 ?_ (by first | assumption | (simp only [*]; done) | (simp only [Heap.set_none', ne_eq, *, not_false_eq_true, and_self]; done)))))))
      exact ⟨rfl, rfl⟩
    · have e : ¬ X.reg 1 = 0 := he
      rw [if_neg e, stH_row h (stM_td _ _ _ _)]
      clear e h
      repeat' (first
    | (with_reducible apply run_seq)
    | ((with_reducible apply run_go); simp only [go_sem, *])
    | ((with_reducible apply run_drawGo Cl.zero Cl.zero_plain mixed); (focus kernel_rfl); simp only [go_sem, *])
    | ((with_reducible apply run_cond_t); (focus (simp only [go_sem, *]; done)))
    | ((with_reducible apply runO_box); (focus (simp only [go_sem, *]; done)); intro pb hpb; have hfb := Heap.ne_of_none hpb; (try simp only [Heap.set_none'] at hpb); (with_reducible apply runO_go); simp only [go_sem, *])
    | ((with_reducible apply runD_store); (focus (simp only [go_sem]; rfl)); (focus (simp only [go_sem, *]; rfl)); (focus (simp only [go_sem, *]; rfl)); (focus (simp only [go_sem, *]; done)); (focus (simp only [go_sem, *]; done)); (focus (simp only [go_sem, *]; done)); (focus (first | rfl | (simp only [go_sem, *]; done))); (with_reducible first | apply runD_go Cl.zero_plain | apply runD_goC); simp only [go_sem, *, Heap.set_set])
    | ((with_reducible apply run_end Try.func79 res79 (H' := H.set l.c (.cells (rowM (s.setTd (k : Int) ({ X with pc := ix })) l) 119))); (focus (simp only [go_sem, *]; rfl)); (focus trivial); (focus (repeat (first | assumption | exact Heap.sub_refl _ | refine Heap.sub_congr ?_ | refine Heap.sub_set ?_ (by assumption) | refine Heap.sub_set2 ?_ (by first | assumption | (simp only [*]; done) | (simp only [Heap.set_none', ne_eq, *, not_false_eq_true, and_self]; done)))))))
      exact ⟨rfl, rfl⟩

theorem assert_call (W : World) (H : Heap) (p : D) (t : Int) (i : In) :
    CallA Try.prog W 80 [p, .v (.int .i64 t), .agg (inC i)] H fun r H' => r = .tup [] ∧ H' = H := by
  refine call_in Try.func80 rfl Try.ntmps80 (by simp) ?_
  repeat' (first
    | ((with_reducible apply run_go); simp only [go_sem, *])
    | ((with_reducible apply runO_box); (focus (simp only [go_sem, *]; done)); intro pb hpb; have hfb := Heap.ne_of_none hpb; (try simp only [Heap.set_none'] at hpb); (with_reducible apply runO_go); simp only [go_sem, *])
    | ((with_reducible apply run_end Try.func80 res80 (H' := H)); (focus (simp only [go_sem, *]; rfl)); (focus trivial); (focus (repeat (first | assumption | exact Heap.sub_refl _ | refine Heap.sub_congr ?_ | refine Heap.sub_set ?_ (by assumption) | refine Heap.sub_set2 ?_ (by first | assumption | (simp only [*]; done) | (simp only [Heap.set_none', ne_eq, *, not_false_eq_true, and_self]; done)))))))
  exact ⟨rfl, rfl⟩
end Go.Proofs.Ytcfeklnmampndaa
set_option linter.unusedSimpArgs false
set_option linter.unusedVariables false
namespace Go.Proofs.Ytcfeklnmampndaa
open Go Go.Sn Go.RowKit

theorem stH_sub {eT eS : Nat} {K K' : Heap} {l : Lo} {s : St} (h : ∀ q r, q ≠ l.b → q ≠ l.c → K q = some r → K' q = some r) : (stH eT eS K l s).sub (stH eT eS K' l s) := by
  intro q r hq
  unfold stH at hq ⊢
  simp only [Heap.set_at] at hq ⊢
  split
  · rename_i e; rw [if_pos e] at hq; exact hq
  · rename_i e
    rw [if_neg e] at hq
    split
    · rename_i e'; rw [if_pos e'] at hq; exact hq
    · rename_i e'; rw [if_neg e'] at hq; exact h q r e e' hq
theorem getD_set {α : Type} [Inhabited α] (l : List α) {k : Nat} (h : k < l.length) (x : α) : (l.set k x).getD k default = x := by
  simp [List.getD_eq_getElem?_getD, h]
theorem tick_td (s : St) {k : Nat} (h : k < s.ts.length) : (s.tick (k : Int)).td (k : Int) = ⟨(s.td k).pc + 1, (s.td k).fu - 1, (s.td k).r0, (s.td k).r1⟩ := by
  show (s.ts.set k _).getD k default = _
  rw [getD_set _ h]

set_option maxHeartbeats 8000000 in
theorem do_call (W : World) (H : Heap) (l : Lo) (s : St) (k : Nat) (i : In) (h : AtP H l s) (hk : k < s.ts.length) (hk1 : 1 ≤ i.kd ∧ i.kd ≤ 8) (hr : i.r = 0 ∨ i.r = 1) (hv : i.kd = 1 ∨ i.kd = 2 → i.x = 0 ∨ i.x = 1 ∨ i.x = 2 ∨ i.x = 3) (hm : i.kd = 5 ∨ i.kd = 6 → i.x = 0 ∨ i.x = 1)
    (hf : 0 ≤ (s.td k).fu ∧ (s.td k).fu ≤ 8) (hp : 0 ≤ (s.td k).pc ∧ (s.td k).pc ≤ 8) :
    CallA Try.prog W 71 [.v (.pointer (some ⟨l.b, 0, none⟩)), .v (.int .i64 (k : Int)), .agg (inC i)] H fun r H' => r = .tup [] ∧ H' = stP H l ((s.tick k).deed k i) := by
  refine call_in Try.func71 rfl Try.ntmps71 (by simp) ?_
  have hb := h.cell
  have hc := h.hc
  have hne := h.ne
  have hcap := h.cap
  have hne' : l.c ≠ l.b := fun e => hne e.symm
  have htd : s.td (k : Int) = s.ts.getD k default := rfl
  rw [htd] at hf hp
  have w1 : IntKind.i64.wrap ((s.ts.getD k default).fu - 1) = (s.ts.getD k default).fu - 1 := wrapP (by omega) (by omega)
  have w2 : IntKind.i64.wrap ((s.ts.getD k default).pc + 1) = (s.ts.getD k default).pc + 1 := wrapP (by omega) (by omega)
  have F := rowF s l hk
  generalize hX : s.ts.getD k default = X at *
  have hT : s.tick (k : Int) = s.setTd k ⟨X.pc + 1, X.fu - 1, X.r0, X.r1⟩ := by unfold St.tick; rw [htd]
  have hk1' : k < (s.setTd (k : Int) ⟨X.pc, X.fu - 1, X.r0, X.r1⟩).ts.length := by show k < (s.ts.set k _).length; rw [List.length_set]; exact hk
  have F1 := rowF (s.setTd (k : Int) ⟨X.pc, X.fu - 1, X.r0, X.r1⟩) l hk1'
  have hX1 : (s.setTd (k : Int) ⟨X.pc, X.fu - 1, X.r0, X.r1⟩).ts.getD k default = ⟨X.pc, X.fu - 1, X.r0, X.r1⟩ := getD_set s.ts hk _
  rw [hX1] at F1
  have g1 := F.p1 (X.fu - 1)
  have e1 : (tdsC (s.ts.set k ⟨X.pc, X.fu - 1, X.r0, X.r1⟩)).flatten ++ l.rest = rowM (s.setTd (k : Int) ⟨X.pc, X.fu - 1, X.r0, X.r1⟩) l := rfl
  rw [e1] at g1
  have g2 := F1.p0 (X.pc + 1)
  have e2 : (tdsC ((s.setTd (k : Int) ⟨X.pc, X.fu - 1, X.r0, X.r1⟩).ts.set k ⟨X.pc + 1, X.fu - 1, X.r0, X.r1⟩)).flatten ++ l.rest = rowM (s.tick (k : Int)) l := by
    rw [hT]
    show (tdsC ((s.ts.set k _).set k _)).flatten ++ l.rest = (tdsC (s.ts.set k _)).flatten ++ l.rest
    rw [List.set_set]
  simp only at g2
  rw [e2] at g2
  obtain ⟨q0, q1, q2, q3, p0, p1, p2, p3, m0, m1, m2, m3, n0, n1, n2, n3⟩ := F
  have u0 := F1.q0
  have um := F1.m0
  have un := F1.n0
  simp only at u0
  have hbT : stM (s.tick (k : Int)) l = stM s l := by rw [hT]; exact stM_td _ _ _ _
  have hlT : (s.tick (k : Int)).ts.length = s.ts.length := by rw [hT]; exact List.length_set
  have HB : Hid (stM (s.tick (k : Int)) l = [.v (.int .i64 s.p.vs), .v (.int .i64 s.p.ms), .list (thsC s.p.th), .v (.slice (some ⟨l.c, 0, none⟩) s.ts.length l.cap), .v (.int .i64 s.v0), .v (.int .i64 s.v1), .v (.int .i64 s.v2), .v (.int .i64 s.v3), .v (.int .i64 s.h0), .v (.int .i64 s.h1)]) := hbT
  have HL : Hid _ := hlT
  have HA : Hid _ := h
  clear F1 p0 p1 p2 p3 hbT hlT e1 e2 hX1 hk1' htd h hT hf hp q2 q3 m2 m3 n2 n3
  generalize hR : rowM s l = R at *
  generalize hR1 : rowM (s.setTd (k : Int) ⟨X.pc, X.fu - 1, X.r0, X.r1⟩) l = R1 at *
  generalize hR2 : rowM (s.tick (k : Int)) l = R2 at *
  have hbT := HB.out
  obtain ⟨ik, ir, ix, iq⟩ := i
  simp only at hk1 hr hv hm
  obtain rfl | rfl | rfl | rfl | rfl | rfl | rfl | rfl : ik = 1 ∨ ik = 2 ∨ ik = 3 ∨ ik = 4 ∨ ik = 5 ∨ ik = 6 ∨ ik = 7 ∨ ik = 8 := by omega
  · have hd : (s.tick (k : Int)).deed k ⟨1, ir, ix, iq⟩ = (s.tick (k : Int)).setTd k (((s.tick (k : Int)).td k).setReg ir ((s.tick (k : Int)).var ix)) := rfl
    rw [hd]
    clear hd
    have HV : Hid _ := hv
    have HM : Hid _ := hm
    have HRR : Hid _ := hr
    clear hv hm hr hk1
    repeat' (first
    | ((with_reducible apply run_drawGoC Cl.dyn mixed); (focus kernel_rfl); simp only [go_sem, *])
    | (with_reducible apply run_seq)
    | ((with_reducible apply run_go); simp only [go_sem, *])
    | ((with_reducible apply runO_box); (focus (simp only [go_sem, *]; done)); intro pb hpb; have hfb := Heap.ne_of_none hpb; (try simp only [Heap.set_none'] at hpb); (with_reducible apply runO_go); simp only [go_sem, *])
    | ((with_reducible apply runO_alloc); (focus (simp only [go_sem, *]; rfl)); intro pb hpb; have hfb := Heap.ne_of_none hpb; (try simp only [Heap.set_none'] at hpb); (with_reducible apply runO_go); simp only [go_sem, *])
    | ((with_reducible apply runO_store); (focus (simp only [go_sem]; rfl)); (focus (simp only [go_sem, *]; rfl)); (focus (simp only [go_sem, *]; rfl)); (focus (simp only [go_sem, *]; done)); (focus (simp only [go_sem, *]; done)); (focus (simp only [go_sem, *]; done)); (with_reducible apply runO_go); simp only [go_sem, *, Heap.set_set]))
    (with_reducible apply runD_callVH); (focus (simp only [go_sem, *]; rfl)); (focus (exact known73)); (focus rfl)
    · simp only [go_sem, *]
      exact load_call W _ l (s.tick (k : Int)) k ⟨1, ir, ix, iq⟩ ⟨by rw [hbT]; simp only [go_sem, *], by rw [hR2]; simp only [go_sem, *], hne, by rw [HL.out]; exact hcap⟩ (by rw [HL.out]; exact hk) HRR.out (HV.out (.inl rfl))
    (with_reducible apply runD_goC); simp only [go_sem, *]
    refine run_drop (H' := stP H l ((s.tick (k : Int)).setTd k (((s.tick (k : Int)).td k).setReg ir ((s.tick (k : Int)).var ix)))) (stH_sub fun q r e1 e2 hq => ?_) ?_
    · rw [Heap.set_other _ _ e2]
      exact (show H.sub _ by repeat (first | assumption | exact Heap.sub_refl _ | refine Heap.sub_congr ?_ | refine Heap.sub_set ?_ (by assumption) | refine Heap.sub_set2 ?_ (by first | assumption | (simp only [*]; done) | (simp only [Heap.set_none', ne_eq, *, not_false_eq_true, and_self]; done)))) q r hq
    repeat' (first
    | ((with_reducible apply run_end Try.func71 res71 (H' := stP H l ((s.tick (k : Int)).setTd k (((s.tick (k : Int)).td k).setReg ir ((s.tick (k : Int)).var ix))))); (focus (simp only [go_sem, *]; rfl)); (focus trivial); (focus (repeat (first | assumption | exact Heap.sub_refl _ | refine Heap.sub_congr ?_ | refine Heap.sub_set ?_ (by assumption) | refine Heap.sub_set2 ?_ (by first | assumption | (simp only [*]; done) | (simp only [Heap.set_none', ne_eq, *, not_false_eq_true, and_self]; done)))))))
    exact ⟨rfl, rfl⟩
  · have hd : (s.tick (k : Int)).deed k ⟨2, ir, ix, iq⟩ = (s.tick (k : Int)).setVar ix (((s.tick (k : Int)).td k).reg ir) := rfl
    rw [hd]
    clear hd
    have HV : Hid _ := hv
    have HM : Hid _ := hm
    have HRR : Hid _ := hr
    clear hv hm hr hk1
    repeat' (first
    | ((with_reducible apply run_drawGoC Cl.dyn mixed); (focus kernel_rfl); simp only [go_sem, *])
    | (with_reducible apply run_seq)
    | ((with_reducible apply run_go); simp only [go_sem, *])
    | ((with_reducible apply runO_box); (focus (simp only [go_sem, *]; done)); intro pb hpb; have hfb := Heap.ne_of_none hpb; (try simp only [Heap.set_none'] at hpb); (with_reducible apply runO_go); simp only [go_sem, *])
    | ((with_reducible apply runO_alloc); (focus (simp only [go_sem, *]; rfl)); intro pb hpb; have hfb := Heap.ne_of_none hpb; (try simp only [Heap.set_none'] at hpb); (with_reducible apply runO_go); simp only [go_sem, *])
    | ((with_reducible apply runO_store); (focus (simp only [go_sem]; rfl)); (focus (simp only [go_sem, *]; rfl)); (focus (simp only [go_sem, *]; rfl)); (focus (simp only [go_sem, *]; done)); (focus (simp only [go_sem, *]; done)); (focus (simp only [go_sem, *]; done)); (with_reducible apply runO_go); simp only [go_sem, *, Heap.set_set]))
    (with_reducible apply runD_callVH); (focus (simp only [go_sem, *]; rfl)); (focus (exact known74)); (focus rfl)
    · simp only [go_sem, *]
      exact store_call W _ l (s.tick (k : Int)) k ⟨2, ir, ix, iq⟩ ⟨by rw [hbT]; simp only [go_sem, *], by rw [hR2]; simp only [go_sem, *], hne, by rw [HL.out]; exact hcap⟩ (by rw [HL.out]; exact hk) HRR.out (HV.out (.inr rfl))
    (with_reducible apply runD_goC); simp only [go_sem, *]
    refine run_drop (H' := stP H l ((s.tick (k : Int)).setVar ix (((s.tick (k : Int)).td k).reg ir))) (stH_sub fun q r e1 e2 hq => ?_) ?_
    · rw [Heap.set_other _ _ e2]
      exact (show H.sub _ by repeat (first | assumption | exact Heap.sub_refl _ | refine Heap.sub_congr ?_ | refine Heap.sub_set ?_ (by assumption) | refine Heap.sub_set2 ?_ (by first | assumption | (simp only [*]; done) | (simp only [Heap.set_none', ne_eq, *, not_false_eq_true, and_self]; done)))) q r hq
    repeat' (first
    | ((with_reducible apply run_end Try.func71 res71 (H' := stP H l ((s.tick (k : Int)).setVar ix (((s.tick (k : Int)).td k).reg ir)))); (focus (simp only [go_sem, *]; rfl)); (focus trivial); (focus (repeat (first | assumption | exact Heap.sub_refl _ | refine Heap.sub_congr ?_ | refine Heap.sub_set ?_ (by assumption) | refine Heap.sub_set2 ?_ (by first | assumption | (simp only [*]; done) | (simp only [Heap.set_none', ne_eq, *, not_false_eq_true, and_self]; done)))))))
    exact ⟨rfl, rfl⟩
  · have hd : (s.tick (k : Int)).deed k ⟨3, ir, ix, iq⟩ = (s.tick (k : Int)).setTd k (((s.tick (k : Int)).td k).setReg ir iq) := rfl
    rw [hd]
    clear hd
    have HV : Hid _ := hv
    have HM : Hid _ := hm
    have HRR : Hid _ := hr
    clear hv hm hr hk1
    repeat' (first
    | ((with_reducible apply run_drawGoC Cl.dyn mixed); (focus kernel_rfl); simp only [go_sem, *])
    | (with_reducible apply run_seq)
    | ((with_reducible apply run_go); simp only [go_sem, *])
    | ((with_reducible apply runO_box); (focus (simp only [go_sem, *]; done)); intro pb hpb; have hfb := Heap.ne_of_none hpb; (try simp only [Heap.set_none'] at hpb); (with_reducible apply runO_go); simp only [go_sem, *])
    | ((with_reducible apply runO_alloc); (focus (simp only [go_sem, *]; rfl)); intro pb hpb; have hfb := Heap.ne_of_none hpb; (try simp only [Heap.set_none'] at hpb); (with_reducible apply runO_go); simp only [go_sem, *])
    | ((with_reducible apply runO_store); (focus (simp only [go_sem]; rfl)); (focus (simp only [go_sem, *]; rfl)); (focus (simp only [go_sem, *]; rfl)); (focus (simp only [go_sem, *]; done)); (focus (simp only [go_sem, *]; done)); (focus (simp only [go_sem, *]; done)); (with_reducible apply runO_go); simp only [go_sem, *, Heap.set_set]))
    (with_reducible apply runD_callVH); (focus (simp only [go_sem, *]; rfl)); (focus (exact known75)); (focus rfl)
    · simp only [go_sem, *]
      exact set_call W _ l (s.tick (k : Int)) k ⟨3, ir, ix, iq⟩ ⟨by rw [hbT]; simp only [go_sem, *], by rw [hR2]; simp only [go_sem, *], hne, by rw [HL.out]; exact hcap⟩ (by rw [HL.out]; exact hk) HRR.out
    (with_reducible apply runD_goC); simp only [go_sem, *]
    refine run_drop (H' := stP H l ((s.tick (k : Int)).setTd k (((s.tick (k : Int)).td k).setReg ir iq))) (stH_sub fun q r e1 e2 hq => ?_) ?_
    · rw [Heap.set_other _ _ e2]
      exact (show H.sub _ by repeat (first | assumption | exact Heap.sub_refl _ | refine Heap.sub_congr ?_ | refine Heap.sub_set ?_ (by assumption) | refine Heap.sub_set2 ?_ (by first | assumption | (simp only [*]; done) | (simp only [Heap.set_none', ne_eq, *, not_false_eq_true, and_self]; done)))) q r hq
    repeat' (first
    | ((with_reducible apply run_end Try.func71 res71 (H' := stP H l ((s.tick (k : Int)).setTd k (((s.tick (k : Int)).td k).setReg ir iq)))); (focus (simp only [go_sem, *]; rfl)); (focus trivial); (focus (repeat (first | assumption | exact Heap.sub_refl _ | refine Heap.sub_congr ?_ | refine Heap.sub_set ?_ (by assumption) | refine Heap.sub_set2 ?_ (by first | assumption | (simp only [*]; done) | (simp only [Heap.set_none', ne_eq, *, not_false_eq_true, and_self]; done)))))))
    exact ⟨rfl, rfl⟩
  · have hd : (s.tick (k : Int)).deed k ⟨4, ir, ix, iq⟩ = (s.tick (k : Int)).setTd k (((s.tick (k : Int)).td k).setReg ir (IntKind.i64.wrap (((s.tick (k : Int)).td k).reg ir + iq))) := rfl
    rw [hd]
    clear hd
    have HV : Hid _ := hv
    have HM : Hid _ := hm
    have HRR : Hid _ := hr
    clear hv hm hr hk1
    repeat' (first
    | ((with_reducible apply run_drawGoC Cl.dyn mixed); (focus kernel_rfl); simp only [go_sem, *])
    | (with_reducible apply run_seq)
    | ((with_reducible apply run_go); simp only [go_sem, *])
    | ((with_reducible apply runO_box); (focus (simp only [go_sem, *]; done)); intro pb hpb; have hfb := Heap.ne_of_none hpb; (try simp only [Heap.set_none'] at hpb); (with_reducible apply runO_go); simp only [go_sem, *])
    | ((with_reducible apply runO_alloc); (focus (simp only [go_sem, *]; rfl)); intro pb hpb; have hfb := Heap.ne_of_none hpb; (try simp only [Heap.set_none'] at hpb); (with_reducible apply runO_go); simp only [go_sem, *])
    | ((with_reducible apply runO_store); (focus (simp only [go_sem]; rfl)); (focus (simp only [go_sem, *]; rfl)); (focus (simp only [go_sem, *]; rfl)); (focus (simp only [go_sem, *]; done)); (focus (simp only [go_sem, *]; done)); (focus (simp only [go_sem, *]; done)); (with_reducible apply runO_go); simp only [go_sem, *, Heap.set_set]))
    (with_reducible apply runD_callVH); (focus (simp only [go_sem, *]; rfl)); (focus (exact known76)); (focus rfl)
    · simp only [go_sem, *]
      exact add_call W _ l (s.tick (k : Int)) k ⟨4, ir, ix, iq⟩ ⟨by rw [hbT]; simp only [go_sem, *], by rw [hR2]; simp only [go_sem, *], hne, by rw [HL.out]; exact hcap⟩ (by rw [HL.out]; exact hk) HRR.out
    (with_reducible apply runD_goC); simp only [go_sem, *]
    refine run_drop (H' := stP H l ((s.tick (k : Int)).setTd k (((s.tick (k : Int)).td k).setReg ir (IntKind.i64.wrap (((s.tick (k : Int)).td k).reg ir + iq))))) (stH_sub fun q r e1 e2 hq => ?_) ?_
    · rw [Heap.set_other _ _ e2]
      exact (show H.sub _ by repeat (first | assumption | exact Heap.sub_refl _ | refine Heap.sub_congr ?_ | refine Heap.sub_set ?_ (by assumption) | refine Heap.sub_set2 ?_ (by first | assumption | (simp only [*]; done) | (simp only [Heap.set_none', ne_eq, *, not_false_eq_true, and_self]; done)))) q r hq
    repeat' (first
    | ((with_reducible apply run_end Try.func71 res71 (H' := stP H l ((s.tick (k : Int)).setTd k (((s.tick (k : Int)).td k).setReg ir (IntKind.i64.wrap (((s.tick (k : Int)).td k).reg ir + iq)))))); (focus (simp only [go_sem, *]; rfl)); (focus trivial); (focus (repeat (first | assumption | exact Heap.sub_refl _ | refine Heap.sub_congr ?_ | refine Heap.sub_set ?_ (by assumption) | refine Heap.sub_set2 ?_ (by first | assumption | (simp only [*]; done) | (simp only [Heap.set_none', ne_eq, *, not_false_eq_true, and_self]; done)))))))
    exact ⟨rfl, rfl⟩
  · have hd : (s.tick (k : Int)).deed k ⟨5, ir, ix, iq⟩ = (s.tick (k : Int)).setHol ix k := rfl
    rw [hd]
    clear hd
    have HV : Hid _ := hv
    have HM : Hid _ := hm
    have HRR : Hid _ := hr
    clear hv hm hr hk1
    repeat' (first
    | ((with_reducible apply run_drawGoC Cl.dyn mixed); (focus kernel_rfl); simp only [go_sem, *])
    | (with_reducible apply run_seq)
    | ((with_reducible apply run_go); simp only [go_sem, *])
    | ((with_reducible apply runO_box); (focus (simp only [go_sem, *]; done)); intro pb hpb; have hfb := Heap.ne_of_none hpb; (try simp only [Heap.set_none'] at hpb); (with_reducible apply runO_go); simp only [go_sem, *])
    | ((with_reducible apply runO_alloc); (focus (simp only [go_sem, *]; rfl)); intro pb hpb; have hfb := Heap.ne_of_none hpb; (try simp only [Heap.set_none'] at hpb); (with_reducible apply runO_go); simp only [go_sem, *])
    | ((with_reducible apply runO_store); (focus (simp only [go_sem]; rfl)); (focus (simp only [go_sem, *]; rfl)); (focus (simp only [go_sem, *]; rfl)); (focus (simp only [go_sem, *]; done)); (focus (simp only [go_sem, *]; done)); (focus (simp only [go_sem, *]; done)); (with_reducible apply runO_go); simp only [go_sem, *, Heap.set_set]))
    (with_reducible apply runD_callVH); (focus (simp only [go_sem, *]; rfl)); (focus (exact known77)); (focus rfl)
    · simp only [go_sem, *]
      exact lock_call W _ l (s.tick (k : Int)) k ⟨5, ir, ix, iq⟩ ⟨by rw [hbT]; simp only [go_sem, *], by rw [hR2]; simp only [go_sem, *], hne, by rw [HL.out]; exact hcap⟩ (by rw [HL.out]; exact hk) (HM.out (.inl rfl))
    (with_reducible apply runD_goC); simp only [go_sem, *]
    refine run_drop (H' := stP H l ((s.tick (k : Int)).setHol ix k)) (stH_sub fun q r e1 e2 hq => ?_) ?_
    · rw [Heap.set_other _ _ e2]
      exact (show H.sub _ by repeat (first | assumption | exact Heap.sub_refl _ | refine Heap.sub_congr ?_ | refine Heap.sub_set ?_ (by assumption) | refine Heap.sub_set2 ?_ (by first | assumption | (simp only [*]; done) | (simp only [Heap.set_none', ne_eq, *, not_false_eq_true, and_self]; done)))) q r hq
    repeat' (first
    | ((with_reducible apply run_end Try.func71 res71 (H' := stP H l ((s.tick (k : Int)).setHol ix k))); (focus (simp only [go_sem, *]; rfl)); (focus trivial); (focus (repeat (first | assumption | exact Heap.sub_refl _ | refine Heap.sub_congr ?_ | refine Heap.sub_set ?_ (by assumption) | refine Heap.sub_set2 ?_ (by first | assumption | (simp only [*]; done) | (simp only [Heap.set_none', ne_eq, *, not_false_eq_true, and_self]; done)))))))
    exact ⟨rfl, rfl⟩
  · have hd : (s.tick (k : Int)).deed k ⟨6, ir, ix, iq⟩ = if (s.tick (k : Int)).hol ix = k then (s.tick (k : Int)).setHol ix (-1) else (s.tick (k : Int)) := rfl
    rw [hd]
    clear hd
    have HV : Hid _ := hv
    have HM : Hid _ := hm
    have HRR : Hid _ := hr
    clear hv hm hr hk1
    repeat' (first
    | ((with_reducible apply run_drawGoC Cl.dyn mixed); (focus kernel_rfl); simp only [go_sem, *])
    | (with_reducible apply run_seq)
    | ((with_reducible apply run_go); simp only [go_sem, *])
    | ((with_reducible apply runO_box); (focus (simp only [go_sem, *]; done)); intro pb hpb; have hfb := Heap.ne_of_none hpb; (try simp only [Heap.set_none'] at hpb); (with_reducible apply runO_go); simp only [go_sem, *])
    | ((with_reducible apply runO_alloc); (focus (simp only [go_sem, *]; rfl)); intro pb hpb; have hfb := Heap.ne_of_none hpb; (try simp only [Heap.set_none'] at hpb); (with_reducible apply runO_go); simp only [go_sem, *])
    | ((with_reducible apply runO_store); (focus (simp only [go_sem]; rfl)); (focus (simp only [go_sem, *]; rfl)); (focus (simp only [go_sem, *]; rfl)); (focus (simp only [go_sem, *]; done)); (focus (simp only [go_sem, *]; done)); (focus (simp only [go_sem, *]; done)); (with_reducible apply runO_go); simp only [go_sem, *, Heap.set_set]))
    (with_reducible apply runD_callVH); (focus (simp only [go_sem, *]; rfl)); (focus (exact known78)); (focus rfl)
    · simp only [go_sem, *]
      exact unlock_call W _ l (s.tick (k : Int)) k ⟨6, ir, ix, iq⟩ ⟨by rw [hbT]; simp only [go_sem, *], by rw [hR2]; simp only [go_sem, *], hne, by rw [HL.out]; exact hcap⟩ (by rw [HL.out]; exact hk) (HM.out (.inr rfl))
    (with_reducible apply runD_goC); simp only [go_sem, *]
    refine run_drop (H' := stP H l (if (s.tick (k : Int)).hol ix = k then (s.tick (k : Int)).setHol ix (-1) else (s.tick (k : Int)))) (stH_sub fun q r e1 e2 hq => ?_) ?_
    · rw [Heap.set_other _ _ e2]
      exact (show H.sub _ by repeat (first | assumption | exact Heap.sub_refl _ | refine Heap.sub_congr ?_ | refine Heap.sub_set ?_ (by assumption) | refine Heap.sub_set2 ?_ (by first | assumption | (simp only [*]; done) | (simp only [Heap.set_none', ne_eq, *, not_false_eq_true, and_self]; done)))) q r hq
    repeat' (first
    | ((with_reducible apply run_end Try.func71 res71 (H' := stP H l (if (s.tick (k : Int)).hol ix = k then (s.tick (k : Int)).setHol ix (-1) else (s.tick (k : Int))))); (focus (simp only [go_sem, *]; rfl)); (focus trivial); (focus (repeat (first | assumption | exact Heap.sub_refl _ | refine Heap.sub_congr ?_ | refine Heap.sub_set ?_ (by assumption) | refine Heap.sub_set2 ?_ (by first | assumption | (simp only [*]; done) | (simp only [Heap.set_none', ne_eq, *, not_false_eq_true, and_self]; done)))))))
    exact ⟨rfl, rfl⟩
  · have hd : (s.tick (k : Int)).deed k ⟨7, ir, ix, iq⟩ = if ((s.tick (k : Int)).td k).reg ir = 0 then (s.tick (k : Int)) else (s.tick (k : Int)).setTd k { (s.tick (k : Int)).td k with pc := ix } := rfl
    rw [hd]
    clear hd
    have HV : Hid _ := hv
    have HM : Hid _ := hm
    have HRR : Hid _ := hr
    clear hv hm hr hk1
    repeat' (first
    | ((with_reducible apply run_drawGoC Cl.dyn mixed); (focus kernel_rfl); simp only [go_sem, *])
    | (with_reducible apply run_seq)
    | ((with_reducible apply run_go); simp only [go_sem, *])
    | ((with_reducible apply runO_box); (focus (simp only [go_sem, *]; done)); intro pb hpb; have hfb := Heap.ne_of_none hpb; (try simp only [Heap.set_none'] at hpb); (with_reducible apply runO_go); simp only [go_sem, *])
    | ((with_reducible apply runO_alloc); (focus (simp only [go_sem, *]; rfl)); intro pb hpb; have hfb := Heap.ne_of_none hpb; (try simp only [Heap.set_none'] at hpb); (with_reducible apply runO_go); simp only [go_sem, *])
    | ((with_reducible apply runO_store); (focus (simp only [go_sem]; rfl)); (focus (simp only [go_sem, *]; rfl)); (focus (simp only [go_sem, *]; rfl)); (focus (simp only [go_sem, *]; done)); (focus (simp only [go_sem, *]; done)); (focus (simp only [go_sem, *]; done)); (with_reducible apply runO_go); simp only [go_sem, *, Heap.set_set]))
    (with_reducible apply runD_callVH); (focus (simp only [go_sem, *]; rfl)); (focus (exact known79)); (focus rfl)
    · simp only [go_sem, *]
      exact jump_call W _ l (s.tick (k : Int)) k ⟨7, ir, ix, iq⟩ ⟨by rw [hbT]; simp only [go_sem, *], by rw [hR2]; simp only [go_sem, *], hne, by rw [HL.out]; exact hcap⟩ (by rw [HL.out]; exact hk) HRR.out
    (with_reducible apply runD_goC); simp only [go_sem, *]
    refine run_drop (H' := stP H l (if ((s.tick (k : Int)).td k).reg ir = 0 then (s.tick (k : Int)) else (s.tick (k : Int)).setTd k { (s.tick (k : Int)).td k with pc := ix })) (stH_sub fun q r e1 e2 hq => ?_) ?_
    · rw [Heap.set_other _ _ e2]
      exact (show H.sub _ by repeat (first | assumption | exact Heap.sub_refl _ | refine Heap.sub_congr ?_ | refine Heap.sub_set ?_ (by assumption) | refine Heap.sub_set2 ?_ (by first | assumption | (simp only [*]; done) | (simp only [Heap.set_none', ne_eq, *, not_false_eq_true, and_self]; done)))) q r hq
    repeat' (first
    | ((with_reducible apply run_end Try.func71 res71 (H' := stP H l (if ((s.tick (k : Int)).td k).reg ir = 0 then (s.tick (k : Int)) else (s.tick (k : Int)).setTd k { (s.tick (k : Int)).td k with pc := ix }))); (focus (simp only [go_sem, *]; rfl)); (focus trivial); (focus (repeat (first | assumption | exact Heap.sub_refl _ | refine Heap.sub_congr ?_ | refine Heap.sub_set ?_ (by assumption) | refine Heap.sub_set2 ?_ (by first | assumption | (simp only [*]; done) | (simp only [Heap.set_none', ne_eq, *, not_false_eq_true, and_self]; done)))))))
    exact ⟨rfl, rfl⟩
  · have hd : (s.tick (k : Int)).deed k ⟨8, ir, ix, iq⟩ = (s.tick (k : Int)) := rfl
    rw [hd]
    clear hd
    have HV : Hid _ := hv
    have HM : Hid _ := hm
    have HRR : Hid _ := hr
    clear hv hm hr hk1
    repeat' (first
    | ((with_reducible apply run_drawGoC Cl.dyn mixed); (focus kernel_rfl); simp only [go_sem, *])
    | (with_reducible apply run_seq)
    | ((with_reducible apply run_go); simp only [go_sem, *])
    | ((with_reducible apply runO_box); (focus (simp only [go_sem, *]; done)); intro pb hpb; have hfb := Heap.ne_of_none hpb; (try simp only [Heap.set_none'] at hpb); (with_reducible apply runO_go); simp only [go_sem, *])
    | ((with_reducible apply runO_alloc); (focus (simp only [go_sem, *]; rfl)); intro pb hpb; have hfb := Heap.ne_of_none hpb; (try simp only [Heap.set_none'] at hpb); (with_reducible apply runO_go); simp only [go_sem, *])
    | ((with_reducible apply runO_store); (focus (simp only [go_sem]; rfl)); (focus (simp only [go_sem, *]; rfl)); (focus (simp only [go_sem, *]; rfl)); (focus (simp only [go_sem, *]; done)); (focus (simp only [go_sem, *]; done)); (focus (simp only [go_sem, *]; done)); (with_reducible apply runO_go); simp only [go_sem, *, Heap.set_set]))
    (with_reducible apply runD_callV); (focus (simp only [go_sem, *]; rfl)); (focus (exact known80)); (focus (simp only [go_sem, *]; exact assert_call W _ _ _ _))
    (with_reducible apply runD_goC); simp only [go_sem, *]
    refine run_drop (H' := stP H l (s.tick (k : Int))) (fun q r hq => ?_) ?_
    · rw [stP, stH_row HA.out hbT] at hq
      rw [hR2] at hq
      exact Heap.sub_congr (by repeat (first | assumption | exact Heap.sub_refl _ | refine Heap.sub_congr ?_ | refine Heap.sub_set ?_ (by assumption) | refine Heap.sub_set2 ?_ (by first | assumption | (simp only [*]; done) | (simp only [Heap.set_none', ne_eq, *, not_false_eq_true, and_self]; done)))) q r hq
    repeat' (first
    | ((with_reducible apply run_end Try.func71 res71 (H' := stP H l ((s.tick (k : Int))))); (focus (simp only [go_sem, *]; rfl)); (focus trivial); (focus (repeat (first | assumption | exact Heap.sub_refl _ | refine Heap.sub_congr ?_ | refine Heap.sub_set ?_ (by assumption) | refine Heap.sub_set2 ?_ (by first | assumption | (simp only [*]; done) | (simp only [Heap.set_none', ne_eq, *, not_false_eq_true, and_self]; done)))))))
    exact ⟨rfl, rfl⟩
end Go.Proofs.Ytcfeklnmampndaa
set_option linter.unusedSimpArgs false
set_option linter.unusedVariables false
namespace Go.Proofs.Ytcfeklnmampndaa
open Go Go.Sn Go.RowKit

theorem ok_setTd {s : St} (hs : OkSt s) (t : Int) {x : Td} (hf : 0 ≤ x.fu ∧ x.fu ≤ 8) (hp : 0 ≤ x.pc ∧ x.pc ≤ 8) : OkSt (s.setTd t x) := by
  refine ⟨hs.right, by show (s.ts.set _ _).length = _; rw [List.length_set]; exact hs.len, fun k hk => ?_⟩
  have hk' : k < s.ts.length := by have : k < (s.ts.set t.toNat x).length := hk; rwa [List.length_set] at this
  show (0 ≤ ((s.ts.set t.toNat x).getD k default).fu ∧ ((s.ts.set t.toNat x).getD k default).fu ≤ 8) ∧ 0 ≤ ((s.ts.set t.toNat x).getD k default).pc ∧ ((s.ts.set t.toNat x).getD k default).pc ≤ 8
  by_cases e : t.toNat = k
  · subst e
    rw [getD_set _ hk']
    exact ⟨hf, hp⟩
  · have : (s.ts.set t.toNat x).getD k default = s.ts.getD k default := by simp [List.getD_eq_getElem?_getD, List.getElem?_set_ne e]
    rw [this]
    exact hs.td k hk'
theorem ok_var {s : St} (hs : OkSt s) (x n : Int) : OkSt (s.setVar x n) := by unfold St.setVar; (repeat' split) <;> exact ⟨hs.right, hs.len, hs.td⟩
theorem ok_hol {s : St} (hs : OkSt s) (x n : Int) : OkSt (s.setHol x n) := by unfold St.setHol; (repeat' split) <;> exact ⟨hs.right, hs.len, hs.td⟩
theorem setReg_pc (t : Td) (r n : Int) : (t.setReg r n).pc = t.pc ∧ (t.setReg r n).fu = t.fu := by unfold Td.setReg; split <;> exact ⟨rfl, rfl⟩
theorem has_is {s : St} {t : Int} (h : s.has t = true) : s.is t = true := by unfold St.has at h; rw [Bool.and_eq_true] at h; exact h.1
theorem has_fu {s : St} {t : Int} (h : s.has t = true) : (s.td t).fu ≠ 0 ∧ (s.td t).pc < ((s.code t).length : Int) := by
  unfold St.has at h
  rw [Bool.and_eq_true] at h
  have h2 := h.2
  simp only [Bool.not_eq_true', Bool.or_eq_false_iff, decide_eq_false_iff_not] at h2
  exact ⟨h2.1, by omega⟩
theorem OkSt.tdk {s : St} (hs : OkSt s) {k : Nat} (hk : k < s.ts.length) : (0 ≤ (s.td k).fu ∧ (s.td k).fu ≤ 8) ∧ 0 ≤ (s.td k).pc ∧ (s.td k).pc ≤ 8 := hs.td k hk
theorem ok_tick {s : St} (hs : OkSt s) {k : Nat} (hh : s.has (k : Int) = true) : OkSt (s.tick k) := by
  obtain ⟨k', e, hk⟩ := is_nat (has_is hh)
  obtain rfl : k = k' := by omega
  have h1 := hs.tdk hk
  have h2 := has_fu hh
  have h3 := hs.code_len (k : Int)
  exact ok_setTd hs _ (by simp only; omega) (by simp only; omega)
theorem len_setTd (s : St) (t : Int) (x : Td) : (s.setTd t x).ts.length = s.ts.length := List.length_set
theorem ok_deed {s : St} (hs : OkSt s) {k : Nat} (hk : k < s.ts.length) {i : In} (hx : i.kd = 7 → 0 ≤ i.x ∧ i.x ≤ 8) : OkSt (s.deed k i) := by
  have h1 := hs.tdk hk
  have hr : ∀ r n, OkSt (s.setTd k ((s.td k).setReg r n)) := fun r n => by
    obtain ⟨e1, e2⟩ := setReg_pc (s.td k) r n
    exact ok_setTd hs _ (by rw [e2]; exact h1.1) (by rw [e1]; exact h1.2)
  unfold St.deed
  split
  · exact hr _ _
  · split
    · exact ok_var hs _ _
    · split
      · exact hr _ _
      · split
        · exact hr _ _
        · split
          · exact ok_hol hs _ _
          · split
            · split
              · exact ok_hol hs _ _
              · exact hs
            · split
              · rename_i h7
                split
                · exact hs
                · exact ok_setTd hs _ h1.1 (hx h7)
              · exact hs
theorem err_0 {s : St} {t : Int} (h : s.err t = 0) : s.may t = true ∧ s.has t = true ∧ s.is t = true := by
  unfold St.err at h
  split at h
  · rename_i h1
    split at h
    · rename_i h2
      split at h
      · rename_i h3; exact ⟨h3, h2, h1⟩
      · cases h
    · cases h
  · cases h
theorem ok_stS {s : St} (hs : OkSt s) (t : Int) : OkSt (s.stS t) := by
  unfold St.stS
  split
  · rename_i h
    obtain ⟨_, hh, his⟩ := err_0 h
    obtain ⟨k, rfl, hk⟩ := is_nat his
    obtain ⟨hi, _, _⟩ := hs.ins hh
    have h3 := hs.code_len (k : Int)
    exact ok_deed (ok_tick hs hh) (by unfold St.tick; rw [len_setTd]; exact hk) fun h7 => ⟨hi.x0, by have := hi.jump h7; omega⟩
  · exact hs

set_option maxHeartbeats 8000000 in
theorem mStep_call (W : World) (H : Heap) (l : Lo) (s : St) (t : Int) (h : AtP H l s) (hs : OkSt s) :
    CallA Try.prog W 63 [.v (.pointer (some ⟨l.b, 0, none⟩)), .v (.int .i64 t)] H fun r H' => r = .tup [.agg (evC (s.stE t)), .v (.int .i64 (s.err t))] ∧ H' = stP H l (s.stS t) := by
  refine call_in Try.func63 rfl Try.ntmps63 (by simp) ?_
  have c1 := fun H' (hk : H.sub H') => mIs_call W (h.mono hk) t
  have c2 := fun H' (hk : H.sub H') => mNext_call W (h.mono hk) t hs
  have c3 := fun H' (hk : H.sub H') => mEnabled_call W (h.mono hk) t hs
  have c4 := fun H' (hk : H.sub H') => mInstr_call W (h.mono hk) t hs
  have stay : s.err t ≠ 0 → stP H l (s.stS t) = H ∧ s.stE t = ev0 := fun e => by
    unfold St.stS St.stE
    rw [if_neg e, if_neg e]
    exact ⟨stH_self h, rfl⟩
  have HS : Hid _ := stay
  have HH : Hid _ := h
  have HO : Hid _ := hs
  clear stay h hs
  cases his : s.is t with
  | false =>
    have he : s.err t = 2 := by unfold St.err; rw [his]; rfl
    obtain ⟨e1, e2⟩ := HS.out (by rw [he]; decide)
    rw [his] at c1
    rw [he, e1, e2]
    repeat' (first
    | (with_reducible apply run_seq)
    | (with_reducible apply run_block)
    | ((with_reducible apply run_go); simp only [go_sem, *])
    | ((with_reducible apply run_cond_t); (focus (simp only [go_sem, *]; done)))
    | ((with_reducible apply run_cond_f); (focus (simp only [go_sem, *]; done)))
    | ((with_reducible apply runO_alloc); (focus (simp only [go_sem, *]; rfl)); intro pb hpb; have hfb := Heap.ne_of_none hpb; (try simp only [Heap.set_none'] at hpb); (with_reducible apply runO_go); simp only [go_sem, *])
    | ((with_reducible apply runO_store); (focus (simp only [go_sem]; rfl)); (focus (simp only [go_sem, *]; rfl)); (focus (simp only [go_sem, *]; rfl)); (focus (simp only [go_sem, *]; done)); (focus (simp only [go_sem, *]; done)); (focus (simp only [go_sem, *]; done)); (with_reducible apply runO_go); simp only [go_sem, *, Heap.set_set])
    | ((with_reducible apply runO_callF known70); simp only [go_sem, *]; refine (c1 _ (by (repeat (first | assumption | exact Heap.sub_refl _ | refine Heap.sub_congr ?_ | refine Heap.sub_set ?_ (by assumption) | refine Heap.sub_set2 ?_ (by first | assumption | (simp only [*]; done) | (simp only [Heap.set_none', ne_eq, *, not_false_eq_true, and_self]; done)))); done)).use ?_; (with_reducible apply runO_go); simp only [go_sem, *])
    | ((with_reducible apply run_ret Try.func63 res63 (H' := H)); (focus (simp only [go_sem, *]; rfl)); (focus trivial); (focus (repeat (first | assumption | exact Heap.sub_refl _ | refine Heap.sub_congr ?_ | refine Heap.sub_set ?_ (by assumption) | refine Heap.sub_set2 ?_ (by first | assumption | (simp only [*]; done) | (simp only [Heap.set_none', ne_eq, *, not_false_eq_true, and_self]; done)))))))
    exact ⟨rfl, rfl⟩
  | true =>
    rw [his] at c1
    cases hh : s.has t with
    | false =>
      have he : s.err t = 6 := by unfold St.err; rw [his, hh]; rfl
      obtain ⟨e1, e2⟩ := HS.out (by rw [he]; decide)
      rw [hh] at c2
      rw [he, e1, e2]
      repeat' (first
    | (with_reducible apply run_seq)
    | (with_reducible apply run_block)
    | (with_reducible apply run_inBlock)
    | (with_reducible apply run_skip)
    | ((with_reducible apply run_go); simp only [go_sem, *])
    | ((with_reducible apply run_cond_t); (focus (simp only [go_sem, *]; done)))
    | ((with_reducible apply run_cond_f); (focus (simp only [go_sem, *]; done)))
    | ((with_reducible apply runO_alloc); (focus (simp only [go_sem, *]; rfl)); intro pb hpb; have hfb := Heap.ne_of_none hpb; (try simp only [Heap.set_none'] at hpb); (with_reducible apply runO_go); simp only [go_sem, *])
    | ((with_reducible apply runO_store); (focus (simp only [go_sem]; rfl)); (focus (simp only [go_sem, *]; rfl)); (focus (simp only [go_sem, *]; rfl)); (focus (simp only [go_sem, *]; done)); (focus (simp only [go_sem, *]; done)); (focus (simp only [go_sem, *]; done)); (with_reducible apply runO_go); simp only [go_sem, *, Heap.set_set])
    | ((with_reducible apply runO_callF known70); simp only [go_sem, *]; refine (c1 _ (by (repeat (first | assumption | exact Heap.sub_refl _ | refine Heap.sub_congr ?_ | refine Heap.sub_set ?_ (by assumption) | refine Heap.sub_set2 ?_ (by first | assumption | (simp only [*]; done) | (simp only [Heap.set_none', ne_eq, *, not_false_eq_true, and_self]; done)))); done)).use ?_; (with_reducible apply runO_go); simp only [go_sem, *])
    | ((with_reducible apply runO_callF known52); simp only [go_sem, *]; refine (c2 _ (by (repeat (first | assumption | exact Heap.sub_refl _ | refine Heap.sub_congr ?_ | refine Heap.sub_set ?_ (by assumption) | refine Heap.sub_set2 ?_ (by first | assumption | (simp only [*]; done) | (simp only [Heap.set_none', ne_eq, *, not_false_eq_true, and_self]; done)))); done)).use ?_; (with_reducible apply runO_go); simp only [go_sem, *])
    | ((with_reducible apply run_ret Try.func63 res63 (H' := H)); (focus (simp only [go_sem, *]; rfl)); (focus trivial); (focus (repeat (first | assumption | exact Heap.sub_refl _ | refine Heap.sub_congr ?_ | refine Heap.sub_set ?_ (by assumption) | refine Heap.sub_set2 ?_ (by first | assumption | (simp only [*]; done) | (simp only [Heap.set_none', ne_eq, *, not_false_eq_true, and_self]; done)))))))
      exact ⟨rfl, rfl⟩
    | true =>
      rw [hh] at c2 c4
      cases hm : s.may t with
      | false =>
        have he : s.err t = 9 := by unfold St.err; rw [his, hh, hm]; rfl
        obtain ⟨e1, e2⟩ := HS.out (by rw [he]; decide)
        rw [hm] at c3
        rw [he, e1, e2]
        repeat' (first
    | (with_reducible apply run_seq)
    | (with_reducible apply run_block)
    | (with_reducible apply run_inBlock)
    | (with_reducible apply run_skip)
    | ((with_reducible apply run_go); simp only [go_sem, *])
    | ((with_reducible apply run_cond_t); (focus (simp only [go_sem, *]; done)))
    | ((with_reducible apply run_cond_f); (focus (simp only [go_sem, *]; done)))
    | ((with_reducible apply runO_alloc); (focus (simp only [go_sem, *]; rfl)); intro pb hpb; have hfb := Heap.ne_of_none hpb; (try simp only [Heap.set_none'] at hpb); (with_reducible apply runO_go); simp only [go_sem, *])
    | ((with_reducible apply runO_store); (focus (simp only [go_sem]; rfl)); (focus (simp only [go_sem, *]; rfl)); (focus (simp only [go_sem, *]; rfl)); (focus (simp only [go_sem, *]; done)); (focus (simp only [go_sem, *]; done)); (focus (simp only [go_sem, *]; done)); (with_reducible apply runO_go); simp only [go_sem, *, Heap.set_set])
    | ((with_reducible apply runO_callF known70); simp only [go_sem, *]; refine (c1 _ (by (repeat (first | assumption | exact Heap.sub_refl _ | refine Heap.sub_congr ?_ | refine Heap.sub_set ?_ (by assumption) | refine Heap.sub_set2 ?_ (by first | assumption | (simp only [*]; done) | (simp only [Heap.set_none', ne_eq, *, not_false_eq_true, and_self]; done)))); done)).use ?_; (with_reducible apply runO_go); simp only [go_sem, *])
    | ((with_reducible apply runO_callF known52); simp only [go_sem, *]; refine (c2 _ (by (repeat (first | assumption | exact Heap.sub_refl _ | refine Heap.sub_congr ?_ | refine Heap.sub_set ?_ (by assumption) | refine Heap.sub_set2 ?_ (by first | assumption | (simp only [*]; done) | (simp only [Heap.set_none', ne_eq, *, not_false_eq_true, and_self]; done)))); done)).use ?_; (with_reducible apply runO_go); simp only [go_sem, *])
    | ((with_reducible apply runO_callF known33); simp only [go_sem, *]; refine (c3 _ (by (repeat (first | assumption | exact Heap.sub_refl _ | refine Heap.sub_congr ?_ | refine Heap.sub_set ?_ (by assumption) | refine Heap.sub_set2 ?_ (by first | assumption | (simp only [*]; done) | (simp only [Heap.set_none', ne_eq, *, not_false_eq_true, and_self]; done)))); done)).use ?_; (with_reducible apply runO_go); simp only [go_sem, *])
    | ((with_reducible apply run_ret Try.func63 res63 (H' := H)); (focus (simp only [go_sem, *]; rfl)); (focus trivial); (focus (repeat (first | assumption | exact Heap.sub_refl _ | refine Heap.sub_congr ?_ | refine Heap.sub_set ?_ (by assumption) | refine Heap.sub_set2 ?_ (by first | assumption | (simp only [*]; done) | (simp only [Heap.set_none', ne_eq, *, not_false_eq_true, and_self]; done)))))))
        exact ⟨rfl, rfl⟩
      | true =>
        have he : s.err t = 0 := by unfold St.err; rw [his, hh, hm]; rfl
        have e2 : s.stE t = s.nxt t := by unfold St.stE; rw [if_pos he]
        have e1 : s.stS t = (s.tick t).deed t (s.ins t) := by unfold St.stS; rw [if_pos he]
        rw [hm] at c3
        rw [he, e1, e2]
        obtain ⟨hi, hpl, hp0⟩ := HO.out.ins hh
        obtain ⟨k, rfl, hk⟩ := is_nat his
        have htd := HO.out.tdk hk
        have c5 := fun H' (hs' : H.sub H') => do_call W H' l s k (s.ins k) (HH.out.mono hs') hk hi.kd hi.r (fun e => by have := hi.var e; have := hi.x0; omega) hi.mu htd.1 htd.2
        have HC : Hid _ := c5
        clear c5 hi hpl hp0 htd HS e1 e2 he his hh hm
        generalize s.nxt (k : Int) = e at *
        generalize hS : (s.tick (k : Int)).deed k (s.ins k) = S at *
        generalize s.ins (k : Int) = i at *
        repeat' (first
    | (with_reducible apply run_seq)
    | (with_reducible apply run_block)
    | ((with_reducible apply run_go); simp only [go_sem, *])
    | ((with_reducible apply run_cond_f); (focus (simp only [go_sem, *]; done)))
    | ((with_reducible apply runO_alloc); (focus (simp only [go_sem, *]; rfl)); intro pb hpb; have hfb := Heap.ne_of_none hpb; (try simp only [Heap.set_none'] at hpb); (with_reducible apply runO_go); simp only [go_sem, *]))
        generalize pb = p4 at *
        have hp4 := hpb
        clear hpb
        repeat' (first
    | (with_reducible apply run_seq)
    | (with_reducible apply run_block)
    | (with_reducible apply run_inBlock)
    | (with_reducible apply run_skip)
    | ((with_reducible apply run_go); simp only [go_sem, *])
    | ((with_reducible apply run_cond_f); (focus (simp only [go_sem, *]; done)))
    | ((with_reducible apply runO_alloc); (focus (simp only [go_sem, *]; rfl)); intro pb hpb; have hfb := Heap.ne_of_none hpb; (try simp only [Heap.set_none'] at hpb); (with_reducible apply runO_go); simp only [go_sem, *])
    | ((with_reducible apply runO_store); (focus (simp only [go_sem]; rfl)); (focus (simp only [go_sem, *]; rfl)); (focus (simp only [go_sem, *]; rfl)); (focus (simp only [go_sem, *]; done)); (focus (simp only [go_sem, *]; done)); (focus (simp only [go_sem, *]; done)); (with_reducible apply runO_go); simp only [go_sem, *, Heap.set_set])
    | ((with_reducible apply runO_callF known70); simp only [go_sem, *]; refine (c1 _ (by (repeat (first | assumption | exact Heap.sub_refl _ | refine Heap.sub_congr ?_ | refine Heap.sub_set ?_ (by assumption) | refine Heap.sub_set2 ?_ (by first | assumption | (simp only [*]; done) | (simp only [Heap.set_none', ne_eq, *, not_false_eq_true, and_self]; done)))); done)).use ?_; (with_reducible apply runO_go); simp only [go_sem, *])
    | ((with_reducible apply runO_callF known52); simp only [go_sem, *]; refine (c2 _ (by (repeat (first | assumption | exact Heap.sub_refl _ | refine Heap.sub_congr ?_ | refine Heap.sub_set ?_ (by assumption) | refine Heap.sub_set2 ?_ (by first | assumption | (simp only [*]; done) | (simp only [Heap.set_none', ne_eq, *, not_false_eq_true, and_self]; done)))); done)).use ?_; (with_reducible apply runO_go); simp only [go_sem, *]))
        generalize pb = p6 at *
        obtain ⟨⟨h64, h64'⟩, hp6⟩ := hpb
        repeat' (first
    | (with_reducible apply run_seq)
    | (with_reducible apply run_inBlock)
    | (with_reducible apply run_skip)
    | ((with_reducible apply run_go); simp only [go_sem, *])
    | ((with_reducible apply run_cond_f); (focus (simp only [go_sem, *]; done)))
    | ((with_reducible apply runO_alloc); (focus (simp only [go_sem, *]; rfl)); intro pb hpb; have hfb := Heap.ne_of_none hpb; (try simp only [Heap.set_none'] at hpb); (with_reducible apply runO_go); simp only [go_sem, *])
    | ((with_reducible apply runO_store); (focus (simp only [go_sem]; rfl)); (focus (simp only [go_sem, *]; rfl)); (focus (simp only [go_sem, *]; rfl)); (focus (simp only [go_sem, *]; done)); (focus (simp only [go_sem, *]; done)); (focus (simp only [go_sem, *]; done)); (with_reducible apply runO_go); simp only [go_sem, *, Heap.set_set])
    | ((with_reducible apply runO_callF known33); simp only [go_sem, *]; refine (c3 _ (by (repeat (first | assumption | exact Heap.sub_refl _ | refine Heap.sub_congr ?_ | refine Heap.sub_set ?_ (by assumption) | refine Heap.sub_set2 ?_ (by first | assumption | (simp only [*]; done) | (simp only [Heap.set_none', ne_eq, *, not_false_eq_true, and_self]; done)))); done)).use ?_; (with_reducible apply runO_go); simp only [go_sem, *])
    | ((with_reducible apply runO_callF known64); simp only [go_sem, *]; refine (c4 _ (by (repeat (first | assumption | exact Heap.sub_refl _ | refine Heap.sub_congr ?_ | refine Heap.sub_set ?_ (by assumption) | refine Heap.sub_set2 ?_ (by first | assumption | (simp only [*]; done) | (simp only [Heap.set_none', ne_eq, *, not_false_eq_true, and_self]; done)))); done)).use ?_; (with_reducible apply runO_go); simp only [go_sem, *]))
        generalize pb = p8 at *
        obtain ⟨⟨h86, h86'⟩, ⟨h84, h84'⟩, hp8⟩ := hpb
        have n4b : p4 ≠ l.b := fun e => by rw [e, HH.out.hb] at hp4; cases hp4
        have n4c : p4 ≠ l.c := fun e => by rw [e, HH.out.hc] at hp4; cases hp4
        have n6b : p6 ≠ l.b := fun e => by rw [e, HH.out.hb] at hp6; cases hp6
        have n6c : p6 ≠ l.c := fun e => by rw [e, HH.out.hc] at hp6; cases hp6
        have n8b : p8 ≠ l.b := fun e => by rw [e, HH.out.hb] at hp8; cases hp8
        have n8c : p8 ≠ l.c := fun e => by rw [e, HH.out.hc] at hp8; cases hp8
        (with_reducible apply runO_callF known71); simp only [go_sem, *]
        refine (HC.out _ (by (repeat (first | assumption | exact Heap.sub_refl _ | refine Heap.sub_congr ?_ | refine Heap.sub_set ?_ (by assumption) | refine Heap.sub_set2 ?_ (by first | assumption | (simp only [*]; done) | (simp only [Heap.set_none', ne_eq, *, not_false_eq_true, and_self]; done)))); done)).mono (fun d1 H1 hh => ?_)
        obtain ⟨rfl, rfl⟩ := hh
        (with_reducible apply runO_go); simp only [go_sem, *]
        refine run_drop (H' := ((stP H l S).set p4 (.cells [.v (.int .i64 0), .v (.int .i64 0), .v (.int .i64 0), .v (.bool false)] 110)).set p6 (.cells (evC e) 110)) (fun q r hq => ?_) ?_
        · unfold stP stH at hq ⊢
          simp only [Heap.set_at] at hq ⊢
          clear HC HO HH c1 c2 c3 c4 hS
          grind
        have z4 : stP H l S p4 = none := by rw [stP, stH_other n4b n4c]; exact hp4
        have z6 : stP H l S p6 = none := by rw [stP, stH_other n6b n6c]; exact hp6
        clear HC HO HH c1 c2 c3 c4 hS
        generalize stP H l S = HF at *
        repeat' (first
    | (with_reducible apply run_seq)
    | ((with_reducible apply run_go); simp only [go_sem, *])
    | ((with_reducible apply runO_store); (focus (simp only [go_sem]; rfl)); (focus (simp only [go_sem, *]; rfl)); (focus (simp only [go_sem, *]; rfl)); (focus (simp only [go_sem, *]; done)); (focus (simp only [go_sem, *]; done)); (focus (simp only [go_sem, *]; done)); (with_reducible apply runO_go); simp only [go_sem, *, Heap.set_set])
    | ((with_reducible apply run_ret Try.func63 res63 (H' := HF)); (focus (simp only [go_sem, *]; rfl)); (focus trivial); (focus (repeat (first | assumption | exact Heap.sub_refl _ | refine Heap.sub_congr ?_ | refine Heap.sub_set ?_ (by assumption) | refine Heap.sub_set2 ?_ (by first | assumption | (simp only [*]; done) | (simp only [Heap.set_none', ne_eq, *, not_false_eq_true, and_self]; done)))))))
        exact ⟨rfl, rfl⟩
end Go.Proofs.Ytcfeklnmampndaa
