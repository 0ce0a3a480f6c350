/-
  Contracts: rows of threads, replayed.
-/
import Derived.Test.YtcfeklnmampndaaStV
set_option linter.unusedSimpArgs false
set_option linter.unusedVariables false
namespace Go.Proofs.Ytcfeklnmampndaa
open Go Go.Sn Go.RowKit
-- NONE stH_none

/-- A row of threads, stepped: the first error, the events, the state. -/
def rpl : St → List Int → Int × List Ev × St
  | s, [] => (0, [], s)
  | s, t :: r => if s.err t = 0 then ((rpl (s.stS t) r).1, s.nxt t :: (rpl (s.stS t) r).2.1, (rpl (s.stS t) r).2.2) else (s.err t, [], s)
def catR (acc : List Ev) (q : Int × List Ev × St) : Int × List Ev × St := (q.1, acc ++ q.2.1, q.2.2)
theorem catR_step {acc : List Ev} {s : St} {t : Int} {r : List Int} (h : s.err t = 0) : catR acc (rpl s (t :: r)) = catR (acc ++ [s.nxt t]) (rpl (s.stS t) r) := by
  unfold catR
  rw [rpl, if_pos h]
  simp
theorem drop_cons_getD {α : Type} [Inhabited α] {l : List α} {k : Nat} (h : k < l.length) : l.drop k = l.getD k default :: l.drop (k + 1) := by
  rw [List.drop_eq_getElem_cons h]
  simp [List.getD_eq_getElem?_getD, List.getElem?_eq_getElem h]
theorem coll_st {eT eS : Nat} {K Ha : Heap} {l : Lo} {s s' : St} {e sz : Nat} {xs : List (List D)} {d : D} (hne : l.b ≠ l.c) (h : Coll (stH eT eS K l s) e sz xs d Ha) : Coll (stH eT eS K l s') e sz xs d (stH eT eS Ha l s') := by
  cases h with
  | none h => rw [stH_stH hne]; exact .none h
  | some b cap hb =>
    obtain ⟨⟨hb1, _⟩, ⟨hb2, _⟩, hb3⟩ := stH_none.1 hb
    rw [stH_set hb1 hb2, stH_stH hne]
    exact .some b cap (stH_none.2 ⟨⟨hb1, fun e => hb1 e.symm⟩, ⟨hb2, fun e => hb2 e.symm⟩, hb3⟩)
theorem rpl_len : ∀ (row : List Int) (s : St), (rpl s row).2.1.length ≤ row.length
  | [], s => by simp [rpl]
  | t :: row, s => by
    rw [rpl]
    split
    · simpa using rpl_len row (s.stS t)
    · simp
theorem ok_rpl : ∀ (row : List Int) {s : St}, OkSt s → OkSt (rpl s row).2.2 ∧ (rpl s row).2.2.p = s.p
  | [], s, hs => ⟨hs, rfl⟩
  | t :: row, s, hs => by
    rw [rpl]
    split
    · have ih := ok_rpl row (ok_stS hs t)
      exact ⟨ih.1, ih.2.trans (stS_p s t)⟩
    · exact ⟨hs, rfl⟩
def ReplP (p : Pg) (fuel : Int) (row : List Int) (H : Heap) (d : D) (H' : Heap) : Prop :=
  (okN p fuel = false ∧ d = .tup [.v (.pointer none), .list [], .v (.int .i64 1)] ∧ H' = H) ∨
  (okN p fuel = true ∧ (rpl (newS p fuel) row).1 ≠ 0 ∧ d = .tup [.v (.pointer none), .list [], .v (.int .i64 (rpl (newS p fuel) row).1)] ∧ H' = H) ∨
  (okN p fuel = true ∧ (rpl (newS p fuel) row).1 = 0 ∧ ∃ l : Lo, H l.b = none ∧ H l.c = none ∧ l.b ≠ l.c ∧ p.th.length ≤ l.cap ∧
    d = .tup [.v (.pointer (some ⟨l.b, 0, none⟩)), .list (evsC (rpl (newS p fuel) row).2.1), .v (.int .i64 0)] ∧ H' = stP H l (rpl (newS p fuel) row).2.2)

set_option maxHeartbeats 8000000 in
theorem replay_call (W : World) (H : Heap) (p : Pg) (fuel : Int) (row : List Int) (hc : ∀ c ∈ p.th, c.length ≤ 1000000) (hl : row.length ≤ 1000000) :
    CallA Try.prog W 47 [.agg (pgC p), .v (.int .i64 fuel), .list (intsC row)] H (ReplP p fuel row H) := by
  refine call_in Try.func47 rfl Try.ntmps47 (by simp) ?_
  repeat' (first
    | (with_reducible apply run_seq)
    | ((with_reducible apply run_go); simp only [go_sem, *])
    | ((with_reducible apply runO_box); (focus (simp only [go_sem, *]; done)); intro pb hpb; have hfb := Heap.ne_of_none hpb; (try simp only [Heap.set_none', stH_none] at hpb); (with_reducible apply runO_go); simp only [go_sem, *]))
  generalize pb = p3 at *
  have hp3 := hpb
  (with_reducible apply runO_callF known36); simp only [go_sem, *]
  refine (stNew_call W _ p fuel hc).mono (fun d1 H1 hh => ?_)
  rcases hh with ⟨hok, l, hlb, hlc, hne, hcap, rfl, rfl⟩ | ⟨hno, rfl, rfl⟩
  rotate_left
  · (with_reducible apply runO_go); simp only [go_sem, *]
    repeat' (first
    | (with_reducible apply run_seq)
    | ((with_reducible apply run_go); simp only [go_sem, *])
    | ((with_reducible apply run_cond_t); (focus (simp only [go_sem, *]; done)))
    | ((with_reducible apply run_ret Try.func47 res47 (H' := H)); (focus (simp only [go_sem, *]; rfl)); (focus trivial); (focus (repeat (first | assumption | exact Heap.sub_refl _ | refine Heap.sub_congr ?_ | refine Heap.sub_set ?_ (by assumption) | refine Heap.sub_set2 ?_ (by first | assumption | (simp only [*]; done) | (simp only [Heap.set_none', stH_none, ne_eq, *, not_false_eq_true, and_self]; done)))))))
    exact .inl ⟨hno, rfl, rfl⟩
  (with_reducible apply runO_go); simp only [go_sem, *]
  have hs0 := okN_ok hok
  have HOK : Hid _ := hok
  have hb3 : l.b ≠ p3 := fun e => by rw [e, Heap.set_same] at hlb; cases hlb
  have hc3 : l.c ≠ p3 := fun e => by rw [e, Heap.set_same] at hlc; cases hlc
  have hbH : H l.b = none := by rw [Heap.set_other _ _ hb3] at hlb; exact hlb
  have hcH : H l.c = none := by rw [Heap.set_other _ _ hc3] at hlc; exact hlc
  have hsubK : H.sub (H.set p3 (.cells (pgC p) 24)) := Heap.sub_set (Heap.sub_refl _) hp3
  generalize hK : H.set p3 (.cells (pgC p) 24) = K at *
  repeat' (first
    | (with_reducible apply run_seq)
    | (with_reducible apply run_block)
    | (with_reducible apply run_skip)
    | ((with_reducible apply run_go); simp only [go_sem, *])
    | ((with_reducible apply run_cond_f); (focus (simp only [go_sem, *]; done))))
  clear hok hfb hpb
  refine run_loop (fun na ea Ha => ∃ (k : Nat) (s : St) (acc : (List Ev)), k ≤ row.length ∧ na = row.length - k ∧ (rpl (newS p fuel) row = catR acc (rpl s (row.drop k)) ∧ OkSt s ∧ s.p = p ∧ acc.length = k) ∧ ea 9 = .v (.pointer (some ⟨l.b, 0, none⟩)) ∧ ea 25 = .list (intsC row) ∧ ea 26 = .v (.int .i64 (row.length : Int)) ∧ ea 27 = .v (.int .i64 (k : Int)) ∧ Coll (stP K l s) (110) (4) (evsC acc) (ea 11) Ha) (row.length)
      ⟨0, newS p fuel, [], Nat.zero_le _, rfl, ⟨by simp [catR], hs0, rfl, rfl⟩, (by simp only [go_sem, *]), (by simp only [go_sem, *]), (by simp only [go_sem, *]), (by simp only [go_sem] <;> rfl), (by simp only [go_sem]; exact .none rfl)⟩ ?_
  rintro na ea Ha ih ⟨k, s, acc, ak, rfl, va0, as9, as25, as26, as27, ca⟩
  generalize hac : ea 11 = da at ca
  have IHa : Hid _ := ih
  clear ih
  have Ia0 : Hid _ := va0
  clear va0
  obtain ⟨hcat, hs, hsp, hal⟩ := Ia0.out
  have hcap2 : s.ts.length ≤ l.cap := by rw [hs.len, hsp]; exact hcap
  have hat : AtP (stP K l s) l s := stH_at hne hcap2
  have hata := hat.mono ca.sub
  have HC : Hid _ := hcat
  by_cases hlt : k < row.length
  · have hw := wrap_succ (k := k) (by omega)
    have hdr := drop_cons_getD hlt
    generalize ht : row.getD k default = t at *
    have c2 := mStep_call W Ha l s t hata hs
    have hinv : OkSt (s.stS t) ∧ (s.stS t).p = p := ⟨ok_stS hs t, by rw [stS_p, hsp]⟩
    have HINV : Hid _ := hinv
    have hcs := coll_st (s' := s.stS t) hne ca
    have HD : Hid _ := hdr
    clear hcat hinv hdr hat hsp hs
    repeat' (first
    | (with_reducible apply run_seq)
    | (with_reducible apply run_block)
    | (with_reducible apply run_skip)
    | ((with_reducible apply run_go); simp only [go_sem, *])
    | ((with_reducible apply run_cond_t); (focus (simp only [go_sem, *]; done))))
    by_cases he : s.err t = 0
    · have hst := catR_step (acc := acc) (r := row.drop (k + 1)) he
      have HST : Hid _ := hst
      rw [he, stE_0 he] at c2
      clear hst ca
      (with_reducible apply runO_callF known63); simp only [go_sem, *]; refine (c2).mono (fun d H1 hh1 => ?_); obtain ⟨rfl, rfl⟩ := hh1; (with_reducible apply runO_go); simp only [go_sem, *]
      clear c2
      repeat' (first
    | (with_reducible apply run_seq)
    | (with_reducible apply run_skip)
    | ((with_reducible apply run_go); simp only [go_sem, *])
    | ((with_reducible apply run_cond_f); (focus (simp only [go_sem, *]; done)))
    | ((with_reducible apply runO_alloc); (focus (simp only [go_sem, *]; rfl)); intro pb hpb; have hfb := Heap.ne_of_none hpb; (try simp only [Heap.set_none', stH_none] at hpb); (with_reducible apply runO_go); simp only [go_sem, *])
    | ((with_reducible apply runO_store); (focus (simp only [go_sem]; rfl)); (focus (simp only [go_sem, *]; rfl)); (focus (simp only [go_sem, *]; rfl)); (focus (simp only [go_sem, *]; done)); (focus (simp only [go_sem, *]; done)); (focus (simp only [go_sem, *]; done)); (with_reducible apply runO_go); simp only [go_sem, *, Heap.set_set])
    | ((with_reducible apply runO_buildSlice); (focus (simp only [go_sem]; rfl)); (focus (simp only [go_sem]; rfl)); (focus (simp only [go_sem]; rfl)); (focus rfl); (focus rfl); (focus (simp only [go_sem, *]; done)); (focus (simp only [go_sem, *]; done)); (focus decide); (with_reducible apply runO_go); simp only [go_sem, *]))
      refine runO_drop (H' := stP Ha l (s.stS t)) (by (repeat (first | assumption | exact Heap.sub_refl _ | refine Heap.sub_congr ?_ | refine Heap.sub_set ?_ (by assumption) | refine Heap.sub_set2 ?_ (by first | assumption | (simp only [*]; done) | (simp only [Heap.set_none', stH_none, ne_eq, *, not_false_eq_true, and_self]; done)))); done) ?_
      (refine runO_coll (t := 60) Try.underlying60 sz110 by110 zr110 rfl (by simp only [go_sem, *]; exact hcs) (by simp only [go_sem, *]; rfl) (evsC_all _) (by simp [evC]) (by (try simp only [List.length_range, List.length_map, List.length_take, List.length_cons, List.length_nil, List.length_append, go_sem]); omega) (by (try simp only [maxLen, List.length_range, List.length_map, List.length_take, List.length_cons, List.length_nil, List.length_append, go_sem]); omega) (fun d1 H1 hc1 => ?_); (with_reducible apply runO_go); simp only [go_sem, *])
      repeat' (first
    | (with_reducible apply run_inBlock)
    | ((with_reducible apply run_go); simp only [go_sem, *]))
      refine IHa.out (row.length - (k + 1)) _ _ (by omega) ⟨k + 1, s.stS t, acc ++ [s.nxt t], by omega, rfl, ⟨by rw [HC.out, HD.out, HST.out], HINV.out.1, HINV.out.2, by simp [hal]⟩, (by simp only [go_sem, *]), (by simp only [go_sem, *]), (by simp only [go_sem, *]), (by simp only [go_sem, *]), ?_⟩
      simp only [go_sem]
      rw [evsC_snoc]
      exact hc1
    · have hR : (rpl (newS p fuel) row).1 = s.err t := by rw [HC.out, HD.out]; unfold catR; rw [rpl, if_neg he]
      have hsub2 : H.sub (stP Ha l (s.stS t)) := hsubK.trans ((stH_subH hlb hlc).trans hcs.sub)
      have HR : Hid _ := hR
      clear hR
      (with_reducible apply runO_callF known63); simp only [go_sem, *]; refine (c2).mono (fun d H1 hh1 => ?_); obtain ⟨rfl, rfl⟩ := hh1; (with_reducible apply runO_go); simp only [go_sem, *]
      clear c2
      generalize stP Ha l (s.stS t) = HH at *
      repeat' (first
    | (with_reducible apply run_seq)
    | ((with_reducible apply run_go); simp only [go_sem, *])
    | ((with_reducible apply run_cond_t); (focus (simp only [go_sem, *]; done)))
    | ((with_reducible apply runO_alloc); (focus (simp only [go_sem, *]; rfl)); intro pb hpb; have hfb := Heap.ne_of_none hpb; (try simp only [Heap.set_none', stH_none] at hpb); (with_reducible apply runO_go); simp only [go_sem, *])
    | ((with_reducible apply runO_store); (focus (simp only [go_sem]; rfl)); (focus (simp only [go_sem, *]; rfl)); (focus (simp only [go_sem, *]; rfl)); (focus (simp only [go_sem, *]; done)); (focus (simp only [go_sem, *]; done)); (focus (simp only [go_sem, *]; done)); (with_reducible apply runO_go); simp only [go_sem, *, Heap.set_set])
    | ((with_reducible apply run_ret Try.func47 res47 (H' := H)); (focus (simp only [go_sem, *]; rfl)); (focus trivial); (focus (repeat (first | assumption | exact Heap.sub_refl _ | refine Heap.sub_congr ?_ | refine Heap.sub_set ?_ (by assumption) | refine Heap.sub_set2 ?_ (by first | assumption | (simp only [*]; done) | (simp only [Heap.set_none', stH_none, ne_eq, *, not_false_eq_true, and_self]; done)))))))
      exact .inr (.inl ⟨HOK.out, by rw [HR.out]; exact he, by rw [HR.out]; rfl, rfl⟩)
  · obtain rfl : k = row.length := by omega
    have hR : rpl (newS p fuel) row = (0, acc, s) := by rw [HC.out, List.drop_length]; unfold catR; rw [rpl]; simp
    have hfl := ca.flat
    have hsub2 : (stP H l s).sub Ha := (stH_sub fun q r e1 e2 hq => hsubK q r hq).trans ca.sub
    have HR : Hid _ := hR
    clear hR hcat
    repeat' (first
    | (with_reducible apply run_seq)
    | (with_reducible apply run_exit rfl)
    | ((with_reducible apply run_go); simp only [go_sem, *])
    | ((with_reducible apply run_cond_f); (focus (simp only [go_sem, *]; done)))
    | ((with_reducible apply run_ret Try.func47 res47 (H' := stP H l s)); (focus (simp only [go_sem, *]; rfl)); (focus trivial); (focus (repeat (first | assumption | exact Heap.sub_refl _ | refine Heap.sub_congr ?_ | refine Heap.sub_set ?_ (by assumption) | refine Heap.sub_set2 ?_ (by first | assumption | (simp only [*]; done) | (simp only [Heap.set_none', stH_none, ne_eq, *, not_false_eq_true, and_self]; done)))))))
    exact .inr (.inr ⟨HOK.out, by rw [HR.out], l, hbH, hcH, hne, hcap, by rw [HR.out]; rfl, by rw [HR.out]⟩)
end Go.Proofs.Ytcfeklnmampndaa
