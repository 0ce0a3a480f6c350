/-
  Contracts: the document's new states, who may, rows replayed.
-/
import Derived.Test.YtcfeklnmampndaaStI
import Derived.Test.YtcfeklnmampndaaStP
set_option linter.unusedSimpArgs false
set_option linter.unusedVariables false
namespace Go.Proofs.Ytcfeklnmampndaa
open Go Go.Sn Go.RowKit
-- NONE stH_none

def NewR (p : Pg) (fuel : Int) (H : Heap) (d : D) (H' : Heap) : Prop :=
  (okN p fuel = true ∧ ∃ l : Lo, H l.b = none ∧ H l.c = none ∧ l.b ≠ l.c ∧ p.th.length ≤ l.cap ∧ d = .v (.pointer (some ⟨l.b, 0, none⟩)) ∧ H' = stR H l (newS p fuel)) ∨
  (okN p fuel = false ∧ d = .v (.pointer none) ∧ H' = H)

set_option maxHeartbeats 8000000 in
theorem rNew_call (W : World) (H : Heap) (p : Pg) (fuel : Int) (hc : ∀ c ∈ p.th, c.length ≤ 1000000) :
    CallA Try.prog W 11 [.agg (pgC p), .v (.int .i64 fuel)] H (NewR p fuel H) := by
  refine call_in Try.func11 rfl Try.ntmps11 (by simp) ?_
  have c1 := fun H => rightPR_call W H p hc
  cases hn : okN p fuel with
  | false =>
    have hE : NewR p fuel H (.v (.pointer none)) H := .inr ⟨hn, rfl, rfl⟩
    by_cases hr : rightP p = true
    · have hf : fuel < 0 ∨ 8 < fuel := by unfold okN at hn; rw [hr] at hn; simp at hn; omega
      rw [hr] at c1
      clear hn hr
      rcases hf with hf | hf
      · repeat' (first
    | (with_reducible apply run_seq)
    | ((with_reducible apply run_go); simp only [go_sem, *])
    | ((with_reducible apply run_cond_t); (focus (simp only [go_sem, *]; done)))
    | ((with_reducible apply runO_box); (focus (simp only [go_sem, *]; done)); intro pb hpb; have hfb := Heap.ne_of_none hpb; (try simp only [Heap.set_none', stH_none] at hpb); (with_reducible apply runO_go); simp only [go_sem, *])
    | ((with_reducible apply runO_callF known38); simp only [go_sem, *]; refine (c1 _).use ?_; (with_reducible apply runO_go); simp only [go_sem, *])
    | ((with_reducible apply run_ret Try.func11 res11 (H' := H)); (focus (simp only [go_sem, *]; rfl)); (focus trivial); (focus (repeat (first | assumption | exact Heap.sub_refl _ | refine Heap.sub_congr ?_ | refine Heap.sub_set ?_ (by assumption) | refine Heap.sub_set2 ?_ (by first | assumption | (simp only [*]; done) | (simp only [Heap.set_none', stH_none, ne_eq, *, not_false_eq_true, and_self]; done)))))))
        exact hE
      · have hf0 : ¬ fuel < 0 := by omega
        repeat' (first
    | (with_reducible apply run_seq)
    | ((with_reducible apply run_go); simp only [go_sem, *])
    | ((with_reducible apply run_cond_t); (focus (simp only [go_sem, *]; done)))
    | ((with_reducible apply runO_box); (focus (simp only [go_sem, *]; done)); intro pb hpb; have hfb := Heap.ne_of_none hpb; (try simp only [Heap.set_none', stH_none] at hpb); (with_reducible apply runO_go); simp only [go_sem, *])
    | ((with_reducible apply runO_callF known38); simp only [go_sem, *]; refine (c1 _).use ?_; (with_reducible apply runO_go); simp only [go_sem, *])
    | ((with_reducible apply run_ret Try.func11 res11 (H' := H)); (focus (simp only [go_sem, *]; rfl)); (focus trivial); (focus (repeat (first | assumption | exact Heap.sub_refl _ | refine Heap.sub_congr ?_ | refine Heap.sub_set ?_ (by assumption) | refine Heap.sub_set2 ?_ (by first | assumption | (simp only [*]; done) | (simp only [Heap.set_none', stH_none, ne_eq, *, not_false_eq_true, and_self]; done)))))))
        exact hE
    · rw [Bool.not_eq_true] at hr
      rw [hr] at c1
      clear hn hr
      by_cases hf : fuel < 0
      · repeat' (first
    | (with_reducible apply run_seq)
    | ((with_reducible apply run_go); simp only [go_sem, *])
    | ((with_reducible apply run_cond_t); (focus (simp only [go_sem, *]; done)))
    | ((with_reducible apply runO_box); (focus (simp only [go_sem, *]; done)); intro pb hpb; have hfb := Heap.ne_of_none hpb; (try simp only [Heap.set_none', stH_none] at hpb); (with_reducible apply runO_go); simp only [go_sem, *])
    | ((with_reducible apply runO_callF known38); simp only [go_sem, *]; refine (c1 _).use ?_; (with_reducible apply runO_go); simp only [go_sem, *])
    | ((with_reducible apply run_ret Try.func11 res11 (H' := H)); (focus (simp only [go_sem, *]; rfl)); (focus trivial); (focus (repeat (first | assumption | exact Heap.sub_refl _ | refine Heap.sub_congr ?_ | refine Heap.sub_set ?_ (by assumption) | refine Heap.sub_set2 ?_ (by first | assumption | (simp only [*]; done) | (simp only [Heap.set_none', stH_none, ne_eq, *, not_false_eq_true, and_self]; done)))))))
        exact hE
      · by_cases hf2 : 8 < fuel
        · repeat' (first
    | (with_reducible apply run_seq)
    | ((with_reducible apply run_go); simp only [go_sem, *])
    | ((with_reducible apply run_cond_t); (focus (simp only [go_sem, *]; done)))
    | ((with_reducible apply runO_box); (focus (simp only [go_sem, *]; done)); intro pb hpb; have hfb := Heap.ne_of_none hpb; (try simp only [Heap.set_none', stH_none] at hpb); (with_reducible apply runO_go); simp only [go_sem, *])
    | ((with_reducible apply runO_callF known38); simp only [go_sem, *]; refine (c1 _).use ?_; (with_reducible apply runO_go); simp only [go_sem, *])
    | ((with_reducible apply run_ret Try.func11 res11 (H' := H)); (focus (simp only [go_sem, *]; rfl)); (focus trivial); (focus (repeat (first | assumption | exact Heap.sub_refl _ | refine Heap.sub_congr ?_ | refine Heap.sub_set ?_ (by assumption) | refine Heap.sub_set2 ?_ (by first | assumption | (simp only [*]; done) | (simp only [Heap.set_none', stH_none, ne_eq, *, not_false_eq_true, and_self]; done)))))))
          exact hE
        · repeat' (first
    | (with_reducible apply run_seq)
    | ((with_reducible apply run_go); simp only [go_sem, *])
    | ((with_reducible apply run_cond_t); (focus (simp only [go_sem, *]; done)))
    | ((with_reducible apply runO_box); (focus (simp only [go_sem, *]; done)); intro pb hpb; have hfb := Heap.ne_of_none hpb; (try simp only [Heap.set_none', stH_none] at hpb); (with_reducible apply runO_go); simp only [go_sem, *])
    | ((with_reducible apply runO_callF known38); simp only [go_sem, *]; refine (c1 _).use ?_; (with_reducible apply runO_go); simp only [go_sem, *])
    | ((with_reducible apply run_ret Try.func11 res11 (H' := H)); (focus (simp only [go_sem, *]; rfl)); (focus trivial); (focus (repeat (first | assumption | exact Heap.sub_refl _ | refine Heap.sub_congr ?_ | refine Heap.sub_set ?_ (by assumption) | refine Heap.sub_set2 ?_ (by first | assumption | (simp only [*]; done) | (simp only [Heap.set_none', stH_none, ne_eq, *, not_false_eq_true, and_self]; done)))))))
          exact hE
  | true =>
    have hn' := hn
    unfold okN at hn'
    rw [Bool.and_eq_true, decide_eq_true_eq] at hn'
    obtain ⟨hr, hf⟩ := hn'
    have hf0 : ¬ fuel < 0 := by omega
    have hf8 : ¬ 8 < fuel := by omega
    obtain ⟨_, ⟨h1, h4⟩, hall⟩ := right_ok hr
    have HN : Hid _ := hn
    rw [hr] at c1
    clear hn hr hf hall hc
    simp only [pgC] at c1 ⊢
    generalize hL : p.th.length = n at *
    repeat' (first
    | (with_reducible apply run_seq)
    | ((with_reducible apply run_go); simp only [go_sem, *])
    | ((with_reducible apply runO_box); (focus (simp only [go_sem, *]; done)); intro pb hpb; have hfb := Heap.ne_of_none hpb; (try simp only [Heap.set_none', stH_none] at hpb); (with_reducible apply runO_go); simp only [go_sem, *]))
    generalize pb = p2x at *
    have hp2x := hpb
    clear hpb
    repeat' (first
    | (with_reducible apply run_seq)
    | (with_reducible apply run_block)
    | (with_reducible apply run_skip)
    | ((with_reducible apply run_go); simp only [go_sem, *])
    | ((with_reducible apply run_cond_f); (focus (simp only [go_sem, *]; done)))
    | ((with_reducible apply runO_box); (focus (simp only [go_sem, *]; done)); intro pb hpb; have hfb := Heap.ne_of_none hpb; (try simp only [Heap.set_none', stH_none] at hpb); (with_reducible apply runO_go); simp only [go_sem, *])
    | ((with_reducible apply runO_callF known38); simp only [go_sem, *]; refine (c1 _).use ?_; (with_reducible apply runO_go); simp only [go_sem, *]))
    clear c1
    generalize pb = p5 at *
    obtain ⟨⟨h52, h25⟩, hp5⟩ := hpb
    generalize p2x = p2 at *
    refine run_loop (fun m e H' => ∃ (k : Nat) (d : D), k ≤ n ∧ m = n - k ∧ e 1 = .v (.int .i64 fuel) ∧ e 2 = .v (.pointer (some ⟨p2, 0, none⟩)) ∧ e 5 = .v (.pointer (some ⟨p5, 0, none⟩)) ∧ e 6 = .v (.int .i64 (k : Int)) ∧
        CollR ((H.set p2 (.cells [.v (.int .i64 p.vs), .v (.int .i64 p.ms), .list (thsC p.th)] 24)).set p5 (.cells [.v (.int .i64 p.vs), .v (.int .i64 p.ms), .list (thsC p.th), d, .v (.int .i64 0), .v (.int .i64 0), .v (.int .i64 0), .v (.int .i64 0), .v (.int .i64 (-1)), .v (.int .i64 (-1))] 91)) 94 4 (tdsC (List.replicate k ⟨0, fuel, 0, 0⟩)) d H') n
        ⟨0, .nil, Nat.zero_le _, rfl, (by simp only [go_sem, *]), (by simp only [go_sem, *]), (by simp only [go_sem, *]), by simp only [go_sem] <;> rfl, .none rfl⟩ ?_
    rintro m e H' ih ⟨k, d, hk, rfl, e1, e2, e5, e6, hc⟩
    have IH : Hid _ := ih
    clear ih
    have q2 : H' p2 = some (.cells [.v (.int .i64 p.vs), .v (.int .i64 p.ms), .list (thsC p.th)] 24) := hc.sub _ _ (by rw [Heap.set_other _ _ h25, Heap.set_same])
    have q5 : H' p5 = some (.cells [.v (.int .i64 p.vs), .v (.int .i64 p.ms), .list (thsC p.th), d, .v (.int .i64 0), .v (.int .i64 0), .v (.int .i64 0), .v (.int .i64 0), .v (.int .i64 (-1)), .v (.int .i64 (-1))] 91) := hc.sub _ _ (Heap.set_same _ _ _)
    by_cases hlt : k < n
    · have hw := wrap_succ (k := k) (by omega)
      obtain ⟨s1, s2, s3⟩ := collR_stor hc
      have HC : Hid _ := hc
      clear hc
      repeat' (first
    | (with_reducible apply run_seq)
    | (with_reducible apply run_block)
    | (with_reducible apply run_skip)
    | ((with_reducible apply run_go); simp only [go_sem, *])
    | ((with_reducible apply run_cond_t); (focus (simp only [go_sem, *]; done)))
    | ((with_reducible apply runO_buildSlice); (focus (simp only [go_sem]; rfl)); (focus (simp only [go_sem]; rfl)); (focus (simp only [go_sem]; rfl)); (focus rfl); (focus rfl); (focus (simp only [go_sem, *]; done)); (focus (simp only [go_sem, *]; done)); (focus decide); (with_reducible apply runO_go); simp only [go_sem, *]))
      refine runO_collR (t := 88) (xs := tdsC (List.replicate k ⟨0, fuel, 0, 0⟩)) (ys := [tdC ⟨0, fuel, 0, 0⟩]) Try.underlying88 sz94 by94 zr94 rfl (by simp only [go_sem, *]; exact HC.out) (.imm (by simp only [go_sem, *]; rfl)) (tdsC_all _) (by simp [tdC]) (by rw [tdsC_length]; simp; omega) (by rw [tdsC_length]; simp [maxLen]; omega) (by simp) (fun d1 H1 hc1 => ?_)
      have q5' : H1 p5 = some (.cells [.v (.int .i64 p.vs), .v (.int .i64 p.ms), .list (thsC p.th), d, .v (.int .i64 0), .v (.int .i64 0), .v (.int .i64 0), .v (.int .i64 0), .v (.int .i64 (-1)), .v (.int .i64 (-1))] 91) := hc1.sub _ _ (Heap.set_same _ _ _)
      obtain ⟨x1, x2, x3⟩ := collR_stor hc1
      have x4 : d1.cells.length = 1 := by rw [x2]; rfl
      have HC1 : Hid _ := hc1
      clear hc1
      (with_reducible apply runO_go); simp only [go_sem, *]
      repeat' (first
    | (with_reducible apply run_inBlock)
    | ((with_reducible apply run_go); simp only [go_sem, *])
    | ((with_reducible apply runO_store); (focus (simp only [go_sem]; rfl)); (focus (simp only [go_sem, *]; rfl)); (focus (simp only [go_sem, *]; rfl)); (focus (simp only [go_sem, *]; done)); (focus (simp only [go_sem, *]; done)); (focus (simp only [go_sem, *]; done)); (with_reducible apply runO_go); simp only [go_sem, *, Heap.set_set]))
      refine IH.out (n - (k + 1)) _ _ (by omega) ⟨k + 1, d1, by omega, rfl, (by simp only [go_sem, *]), (by simp only [go_sem, *]), (by simp only [go_sem, *]), (by simp only [go_sem, *]), ?_⟩
      have hx := collR_set (p := p5) (r := .cells [.v (.int .i64 p.vs), .v (.int .i64 p.ms), .list (thsC p.th), d1, .v (.int .i64 0), .v (.int .i64 0), .v (.int .i64 0), .v (.int .i64 0), .v (.int .i64 (-1)), .v (.int .i64 (-1))] 91) HC1.out (Heap.set_same _ _ _)
      rw [Heap.set_set] at hx
      have he : tdsC (List.replicate (k + 1) ⟨0, fuel, 0, 0⟩) = tdsC (List.replicate k ⟨0, fuel, 0, 0⟩) ++ [tdC ⟨0, fuel, 0, 0⟩] := by rw [List.replicate_succ', tdsC_snoc]
      rw [he]
      exact hx
    · obtain rfl : k = n := by omega
      clear IH
      generalize hd : d = dd at *
      cases hc with
      | none h0 =>
        exfalso
        have := congrArg List.length h0
        rw [tdsC_length, List.length_replicate] at this
        simp at this
        omega
      | some b cap rest hb hcap hrl =>
        rw [tdsC_length, List.length_replicate] at hcap
        simp only [Heap.set_none'] at hb
        obtain ⟨⟨hb5, hb5'⟩, ⟨hb2, hb2'⟩, hbH⟩ := hb
        have hdl : (tdsC (List.replicate k (⟨0, fuel, 0, 0⟩ : Td))).length = k := by rw [tdsC_length, List.length_replicate]
        rw [hdl] at q2 q5 ⊢
        repeat' (first
    | (with_reducible apply run_seq)
    | (with_reducible apply run_exit rfl)
    | ((with_reducible apply run_go); simp only [go_sem, *])
    | ((with_reducible apply run_cond_f); (focus (simp only [go_sem, *]; done)))
    | ((with_reducible apply run_ret Try.func11 res11 (H' := (H.set p5 (.cells [.v (.int .i64 p.vs), .v (.int .i64 p.ms), .list (thsC p.th), .v (.slice (some ⟨b, 0, none⟩) k cap), .v (.int .i64 0), .v (.int .i64 0), .v (.int .i64 0), .v (.int .i64 0), .v (.int .i64 (-1)), .v (.int .i64 (-1))] 91)).set b (.cells ((tdsC (List.replicate k ⟨0, fuel, 0, 0⟩)).flatten ++ rest) 94))); (focus (simp only [go_sem, *]; rfl)); (focus trivial); (focus (repeat (first | assumption | exact Heap.sub_refl _ | refine Heap.sub_congr ?_ | refine Heap.sub_set ?_ (by assumption) | refine Heap.sub_set2 ?_ (by first | assumption | (simp only [*]; done) | (simp only [Heap.set_none', stH_none, ne_eq, *, not_false_eq_true, and_self]; done)))))))
        refine .inl ⟨HN.out, ⟨p5, b, cap, rest⟩, hp5, hbH, hb5', by rw [hL]; exact hcap, rfl, ?_⟩
        rw [Heap.set_comm _ _ _ hb5']
        unfold stR stH rowM stM stD newS
        simp only [hL, List.length_replicate]

theorem rAll_call (W : World) (H : Heap) (l : Lo) (s : St) (h : AtR H l s) (hs : OkSt s) :
    CallA Try.prog W 32 [.v (.pointer (some ⟨l.b, 0, none⟩))] H fun r H' => r = .list (intsC s.all) ∧ H' = H := by
  refine call_in Try.func32 rfl Try.ntmps32 (by simp) ?_
  have c2 := fun H' (hk : H.sub H') (k : Nat) => nEnabled_call W (h.mono hk) (k : Int) hs
  have hl4 := (ok_len hs).1
  have hb := h.cell
  rw [all_eq]
  clear h hs
  repeat' (first
    | (with_reducible apply run_seq)
    | (with_reducible apply run_block)
    | ((with_reducible apply run_go); simp only [go_sem, *]))
  refine run_loop (fun na ea Ha => ∃ (k : Nat), k ≤ s.ts.length ∧ na = s.ts.length - k ∧ ea 0 = .v (.pointer (some ⟨l.b, 0, none⟩)) ∧ ea 4 = .v (.int .i64 (k : Int)) ∧ Coll (H) (3) (1) (intsC (allK s k)) (ea 3) Ha) (s.ts.length)
      ⟨0, Nat.zero_le _, rfl, (by simp only [go_sem, *]), (by simp only [go_sem] <;> rfl), (by simp only [go_sem]; exact .none rfl)⟩ ?_
  rintro na ea Ha ih ⟨k, ak, rfl, as0, as4, ca⟩
  generalize hac : ea 3 = da at ca
  have IHa : Hid _ := ih
  clear ih
  have hsub := ca.sub
  have hba := hsub _ _ hb
  by_cases hlt : k < s.ts.length
  · have hw := wrap_succ (k := k) (by omega)
    have c3 := c2 _ hsub k
    have hak := allK_len s k
    have hsu := allK_succ s k
    cases hm : s.may (k : Int) with
    | true =>
      rw [hm] at c3 hsu
      rw [if_pos rfl] at hsu
      have HSU : Hid _ := hsu
      clear c2 hsu
      repeat' (first
    | (with_reducible apply run_seq)
    | (with_reducible apply run_block)
    | (with_reducible apply run_skip)
    | ((with_reducible apply run_go); simp only [go_sem, *])
    | ((with_reducible apply run_cond_t); (focus (simp only [go_sem, *]; done)))
    | ((with_reducible apply runO_callF known42); simp only [go_sem, *]; refine (c3).use ?_; (with_reducible apply runO_go); simp only [go_sem, *])
    | ((with_reducible apply runO_buildSlice); (focus (simp only [go_sem]; rfl)); (focus (simp only [go_sem]; rfl)); (focus (simp only [go_sem]; rfl)); (focus rfl); (focus rfl); (focus (simp only [go_sem, *]; done)); (focus (simp only [go_sem, *]; done)); (focus decide); (with_reducible apply runO_go); simp only [go_sem, *]))
      (refine runO_coll (t := 41) Try.underlying41 sz3 by3 zr3 rfl (by simp only [go_sem, *]; exact ca) (by simp only [go_sem, *]; rfl) (intsC_all _) (by simp) (by (try simp only [List.length_range, List.length_map, List.length_take, List.length_cons, List.length_nil, List.length_append, go_sem]); omega) (by (try simp only [maxLen, List.length_range, List.length_map, List.length_take, List.length_cons, List.length_nil, List.length_append, go_sem]); omega) (fun d1 H1 hc1 => ?_); (with_reducible apply runO_go); simp only [go_sem, *])
      repeat' (first
    | (with_reducible apply run_inBlock)
    | ((with_reducible apply run_go); simp only [go_sem, *]))
      refine IHa.out (s.ts.length - (k + 1)) _ _ (by omega) ⟨k + 1, by omega, rfl, (by simp only [go_sem, *]), (by simp only [go_sem, *]), ?_⟩
      simp only [go_sem]
      rw [HSU.out, intsC_snoc]
      exact hc1
    | false =>
      rw [hm] at c3 hsu
      simp only [Bool.false_eq_true, if_false] at hsu
      have HSU : Hid _ := hsu
      clear c2 hsu
      repeat' (first
    | (with_reducible apply run_seq)
    | (with_reducible apply run_block)
    | (with_reducible apply run_inBlock)
    | (with_reducible apply run_skip)
    | ((with_reducible apply run_go); simp only [go_sem, *])
    | ((with_reducible apply run_cond_t); (focus (simp only [go_sem, *]; done)))
    | ((with_reducible apply run_cond_f); (focus (simp only [go_sem, *]; done)))
    | ((with_reducible apply runO_callF known42); simp only [go_sem, *]; refine (c3).use ?_; (with_reducible apply runO_go); simp only [go_sem, *]))
      refine IHa.out (s.ts.length - (k + 1)) _ _ (by omega) ⟨k + 1, by omega, rfl, (by simp only [go_sem, *]), (by simp only [go_sem, *]), ?_⟩
      rw [HSU.out]
      simp only [go_sem, *]
  · obtain rfl : k = s.ts.length := by omega
    have hfl := ca.flat
    clear c2
    repeat' (first
    | (with_reducible apply run_seq)
    | (with_reducible apply run_exit rfl)
    | ((with_reducible apply run_go); simp only [go_sem, *])
    | ((with_reducible apply run_cond_f); (focus (simp only [go_sem, *]; done)))
    | ((with_reducible apply run_ret Try.func32 res32 (H' := H)); (focus (simp only [go_sem, *]; rfl)); (focus trivial); (focus (repeat (first | assumption | exact Heap.sub_refl _ | refine Heap.sub_congr ?_ | refine Heap.sub_set ?_ (by assumption) | refine Heap.sub_set2 ?_ (by first | assumption | (simp only [*]; done) | (simp only [Heap.set_none', stH_none, ne_eq, *, not_false_eq_true, and_self]; done)))))))
    exact ⟨rfl, rfl⟩

end Go.Proofs.Ytcfeklnmampndaa
