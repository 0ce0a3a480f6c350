/-
  The document's trees: a state copied, a prefix's row, a prefix's state.
-/
import Derived.Test.YtcfeklnmampndaaTrAB
import Derived.Test.YtcfeklnmampndaaStR
set_option linter.unusedSimpArgs false
set_option linter.unusedVariables false
namespace Go.Proofs.Ytcfeklnmampndaa
open Go Go.Sn Go.RowKit
-- NONE stH_none

def CopyR (s : St) (H : Heap) (d : D) (H' : Heap) : Prop :=
  ∃ l : Lo, H l.b = none ∧ H l.c = none ∧ l.b ≠ l.c ∧ s.ts.length ≤ l.cap ∧ d = .v (.pointer (some ⟨l.b, 0, none⟩)) ∧ H' = stR H l s
theorem nCopy_call (W : World) (H : Heap) (l : Lo) (s : St) (h : AtR H l s) (hs : OkSt s) :
    CallA Try.prog W 48 [.v (.pointer (some ⟨l.b, 0, none⟩))] H (CopyR s H) := by
  refine call_in Try.func48 rfl Try.ntmps48 (by simp) ?_
  obtain ⟨hl4, hl1⟩ := ok_len hs
  have hne : tdsC s.ts ≠ [] := fun e => by have h2 := congrArg List.length e; rw [tdsC_length, List.length_nil] at h2; omega
  have hb := h.cell
  have hc := h.hc
  unfold rowM at hc
  have hln := tdsC_length s.ts
  repeat' (first
    | (with_reducible apply run_seq)
    | ((with_reducible apply run_go); simp only [go_sem, *])
    | ((with_reducible apply runO_alloc); (focus (simp only [go_sem, *]; rfl)); intro pb hpb; have hfb := Heap.ne_of_none hpb; (try simp only [Heap.set_none', stH_none] at hpb); (with_reducible apply runO_go); simp only [go_sem, *])
    | ((with_reducible apply runO_store); (focus (simp only [go_sem]; rfl)); (focus (simp only [go_sem, *]; rfl)); (focus (simp only [go_sem, *]; rfl)); (focus (simp only [go_sem, *]; done)); (focus (simp only [go_sem, *]; done)); (focus (simp only [go_sem, *]; done)); (with_reducible apply runO_go); simp only [go_sem, *, Heap.set_set])
    | ((with_reducible apply runO_buildSlice); (focus (simp only [go_sem]; rfl)); (focus (simp only [go_sem]; rfl)); (focus (simp only [go_sem]; rfl)); (focus rfl); (focus rfl); (focus (simp only [go_sem, *]; done)); (focus (simp only [go_sem, *]; done)); (focus decide); (with_reducible apply runO_go); simp only [go_sem, *]))
  generalize pb = p3 at *
  have hp3 := hpb
  have hcp : l.c ≠ p3 := fun e => by rw [e, hp3] at hc; cases hc
  have hsrc : ∀ r, Src (H.set p3 r) 4 (tdsC s.ts) (.v (.slice (some ⟨l.c, 0, none⟩) s.ts.length l.cap)) := fun r => by
    have := Src.row (H := H.set p3 r) (sz := 4) (ys := tdsC s.ts) l.c l.cap l.rest 94 (by rw [Heap.set_other _ _ hcp]; exact hc)
    rwa [hln] at this
  have HS : Hid _ := hsrc
  clear hsrc
  refine runO_append_cellsR (t := 88) (ys := tdsC s.ts) Try.underlying88 sz94 by94 zr94 rfl (by simp only [go_sem, *]) (by simp only [go_sem, *]; exact HS.out _) (tdsC_all s.ts) (by rw [hln]; omega) (by rw [hln]; simp only [maxLen]; omega) hne (fun c cap rest hcn hcap hrl => ?_)
  rw [hln] at hcap ⊢
  have hcb : c ≠ p3 := fun e => by rw [e, Heap.set_same] at hcn; cases hcn
  have hcb' : p3 ≠ c := fun e => hcb e.symm
  have hcH : H c = none := by rw [Heap.set_other _ _ hcb] at hcn; exact hcn
  clear hrl hfb hcn
  (with_reducible apply runO_go); simp only [go_sem, *]
  repeat' (first
    | (with_reducible apply run_seq)
    | ((with_reducible apply run_go); simp only [go_sem, *])
    | ((with_reducible apply runO_store); (focus (simp only [go_sem]; rfl)); (focus (simp only [go_sem, *]; rfl)); (focus (simp only [go_sem, *]; rfl)); (focus (simp only [go_sem, *]; done)); (focus (simp only [go_sem, *]; done)); (focus (simp only [go_sem, *]; done)); (with_reducible apply runO_go); simp only [go_sem, *, Heap.set_set])
    | ((with_reducible apply run_ret Try.func48 res48 (H' := stR H ⟨p3, c, cap, rest⟩ s)); (focus (simp only [go_sem, *]; rfl)); (focus trivial); (focus (repeat (first | assumption | exact Heap.sub_refl _ | refine Heap.sub_congr ?_ | refine Heap.sub_set ?_ (by assumption) | refine Heap.sub_set2 ?_ (by first | assumption | (simp only [*]; done) | (simp only [Heap.set_none', stH_none, ne_eq, *, not_false_eq_true, and_self]; done)))))))
  exact ⟨⟨p3, c, cap, rest⟩, hp3, hcH, hcb', hcap, rfl, rfl⟩

theorem row_call (W : World) (H : Heap) (k : Ky) (hk : okS k) :
    CallA Try.prog W 49 [dS k] H fun r H' => r = .list (intsC (rowK k)) ∧ H' = H := by
  refine call_in Try.func49 rfl Try.ntmps49 (by simp) ?_
  unfold okS at hk
  repeat' (first
    | (with_reducible apply run_seq)
    | (with_reducible apply run_block)
    | ((with_reducible apply run_go); simp only [go_sem, *]))
  refine run_loop (fun na ea Ha => ∃ (j : Nat), j ≤ k.length ∧ na = k.length - j ∧ ea 0 = dS k ∧ ea 4 = .v (.int .i64 (j : Int)) ∧ Coll (H) (3) (1) (intsC (rowK (k.take j))) (ea 3) Ha) (k.length)
      ⟨0, Nat.zero_le _, rfl, (by simp only [go_sem, *]), (by simp only [go_sem] <;> rfl), (by simp only [go_sem]; exact .none rfl)⟩ ?_
  rintro na ea Ha ih ⟨j, ak, rfl, as0, as4, ca⟩
  generalize hac : ea 3 = da at ca
  have IHa : Hid _ := ih
  clear ih
  have hsub := ca.sub
  have hfl := ca.flat
  by_cases hlt : j < k.length
  · have hw := wrap_succ (k := j) (by omega)
    have hrl := rowK_len (k.take j)
    rw [List.length_take] at hrl
    have hrt := rowK_take hlt
    generalize hb0 : k.getD j 0 = b at *
    have hlt256 := b.toNat_lt
    have w0 : IntKind.i64.wrap (b.toNat : Int) = (b.toNat : Int) := wrap_small (by omega) (by omega)
    have HRT : Hid _ := hrt
    clear hrt hlt256
    repeat' (first
    | (with_reducible apply run_seq)
    | (with_reducible apply run_block)
    | (with_reducible apply run_skip)
    | ((with_reducible apply run_go); simp only [go_sem, *])
    | ((with_reducible apply run_cond_t); (focus (simp only [go_sem, *]; done)))
    | ((with_reducible apply runO_buildSlice); (focus (simp only [go_sem]; rfl)); (focus (simp only [go_sem]; rfl)); (focus (simp only [go_sem]; rfl)); (focus rfl); (focus rfl); (focus (simp only [go_sem, *]; done)); (focus (simp only [go_sem, *]; done)); (focus decide); (with_reducible apply runO_go); simp only [go_sem, *]))
    (refine runO_coll (t := 41) Try.underlying41 sz3 by3 zr3 rfl (by simp only [go_sem, *]; exact ca) (by simp only [go_sem, *]; rfl) (intsC_all _) (by simp) (by (try simp only [List.length_range, List.length_map, List.length_take, List.length_cons, List.length_nil, List.length_append, go_sem]); omega) (by (try simp only [maxLen, List.length_range, List.length_map, List.length_take, List.length_cons, List.length_nil, List.length_append, go_sem]); omega) (fun d1 H1 hc1 => ?_); (with_reducible apply runO_go); simp only [go_sem, *])
    repeat' (first
    | (with_reducible apply run_inBlock)
    | ((with_reducible apply run_go); simp only [go_sem, *]))
    refine IHa.out (k.length - (j + 1)) _ _ (by omega) ⟨j + 1, by omega, rfl, (by simp only [go_sem, *]), (by simp only [go_sem, *]), ?_⟩
    simp only [go_sem]
    rw [HRT.out, intsC_snoc]
    exact hc1
  · obtain rfl : j = k.length := by omega
    rw [List.take_length] at ca hfl
    repeat' (first
    | (with_reducible apply run_seq)
    | (with_reducible apply run_exit rfl)
    | ((with_reducible apply run_go); simp only [go_sem, *])
    | ((with_reducible apply run_cond_f); (focus (simp only [go_sem, *]; done)))
    | ((with_reducible apply run_ret Try.func49 res49 (H' := H)); (focus (simp only [go_sem, *]; rfl)); (focus trivial); (focus (repeat (first | assumption | exact Heap.sub_refl _ | refine Heap.sub_congr ?_ | refine Heap.sub_set ?_ (by assumption) | refine Heap.sub_set2 ?_ (by first | assumption | (simp only [*]; done) | (simp only [Heap.set_none', stH_none, ne_eq, *, not_false_eq_true, and_self]; done)))))))
    exact ⟨rfl, rfl⟩

def AtDQ (s0 : St) (k : Ky) (H : Heap) (d : D) (H' : Heap) : Prop :=
  ((rpl s0 (rowK k)).1 ≠ 0 ∧ d = .tup [.v (.pointer none), .v (.int .i64 (rpl s0 (rowK k)).1)] ∧ H' = H) ∨
  ((rpl s0 (rowK k)).1 = 0 ∧ ∃ l : Lo, H l.b = none ∧ H l.c = none ∧ l.b ≠ l.c ∧ s0.ts.length ≤ l.cap ∧
    d = .tup [.v (.pointer (some ⟨l.b, 0, none⟩)), .v (.int .i64 0)] ∧ H' = stR H l (rpl s0 (rowK k)).2.2)

set_option maxHeartbeats 8000000 in
theorem dAt_call (W : World) (H : Heap) (b : Nat) (lo : Lo) (s0 : St) (nD : D) (cl : Int) (hb : H b = some (.cells [.v (.pointer (some ⟨lo.b, 0, none⟩)), nD, .v (.int .i64 cl)] 38)) (hr : AtR H lo s0) (hs0 : OkSt s0) (k : Ky) (hk : okS k) :
    CallA Try.prog W 25 [.v (.pointer (some ⟨b, 0, none⟩)), dS k] H (AtDQ s0 k H) := by
  refine call_in Try.func25 rfl Try.ntmps25 (by simp) ?_
  have c1 := fun H => row_call W H k hk
  unfold okS at hk
  have hrl := rowK_len k
  have hrl2 : (rowK k).length ≤ 1000000 := by omega
  clear hrl hk
  unfold AtDQ
  generalize rowK k = row at *
  repeat' (first
    | (with_reducible apply run_seq)
    | ((with_reducible apply run_go); simp only [go_sem, *]))
  (with_reducible apply runO_callF known48); simp only [go_sem, *]
  refine (nCopy_call W H lo s0 hr hs0).mono (fun d1 H1 hh => ?_)
  obtain ⟨l, hlb, hlc, hne, hcap, rfl, rfl⟩ := hh
  (with_reducible apply runO_go); simp only [go_sem, *]
  clear hb hr
  repeat' (first
    | (with_reducible apply run_seq)
    | (with_reducible apply run_block)
    | ((with_reducible apply run_go); simp only [go_sem, *])
    | ((with_reducible apply runO_callF known49); simp only [go_sem, *]; refine (c1 _).use ?_; (with_reducible apply runO_go); simp only [go_sem, *]))
  clear c1
  refine run_loop (fun na ea Ha => ∃ (j : Nat) (s : St), j ≤ row.length ∧ na = row.length - j ∧ ((rpl s0 row).1 = (rpl s (row.drop j)).1 ∧ (rpl s0 row).2.2 = (rpl s (row.drop j)).2.2 ∧ OkSt s ∧ s.p = s0.p) ∧ ea 6 = .v (.pointer (some ⟨l.b, 0, none⟩)) ∧ ea 7 = .list (intsC row) ∧ ea 8 = .v (.int .i64 (j : Int)) ∧ stR H l s = Ha) (row.length)
      ⟨0, s0, Nat.zero_le _, rfl, ⟨rfl, rfl, hs0, rfl⟩, (by simp only [go_sem, *]), (by simp only [go_sem, *]), (by simp only [go_sem] <;> rfl), rfl⟩ ?_
  rintro na ea Ha ih ⟨j, s, ak, rfl, va0, as6, as7, as8, rfl⟩
  have IHa : Hid _ := ih
  clear ih
  have Ia0 : Hid _ := va0
  clear va0
  obtain ⟨hr1, hr2, hs, hsp⟩ := Ia0.out
  have hcap2 : s.ts.length ≤ l.cap := by rw [hs.len, hsp, ← hs0.len]; exact hcap
  have hat : AtR (stR H l s) l s := stH_at hne hcap2
  by_cases hlt : j < row.length
  · have hw := wrap_succ (k := j) (by omega)
    have hdr := drop_cons_getD hlt
    generalize ht : row.getD j default = t at *
    have c2 := nStep_call W (stR H l s) l s t hat hs
    have hss : stR (stR H l s) l (s.stS t) = stR H l (s.stS t) := stH_stH hne
    rw [hss] at c2
    clear hss
    have HINV : Hid (OkSt (s.stS t) ∧ (s.stS t).p = s0.p) := ⟨ok_stS hs t, by rw [stS_p, hsp]⟩
    rw [hdr, rpl] at hr1 hr2
    have HR1 : Hid _ := hr1
    have HR2 : Hid _ := hr2
    have hEv : evC (s.stE t) = [.v (.int .i64 (s.stE t).th), .v (.int .i64 (s.stE t).kd), .v (.int .i64 (s.stE t).ob), .v (.bool (s.stE t).fl)] := rfl
    rw [hEv] at c2
    clear hat hs hsp hdr hEv hr1 hr2
    generalize s.stE t = ev at *
    repeat' (first
    | (with_reducible apply run_seq)
    | (with_reducible apply run_block)
    | (with_reducible apply run_skip)
    | ((with_reducible apply run_go); simp only [go_sem, *])
    | ((with_reducible apply run_cond_t); (focus (simp only [go_sem, *]; done))))
    by_cases he : s.err t = 0
    · rw [he] at c2
      (with_reducible apply runO_callF known50); simp only [go_sem, *]; refine (c2).mono (fun d H1 hh1 => ?_); obtain ⟨rfl, rfl⟩ := hh1; (with_reducible apply runO_go); simp only [go_sem, *]
      repeat' (first
    | (with_reducible apply run_seq)
    | (with_reducible apply run_inBlock)
    | (with_reducible apply run_skip)
    | ((with_reducible apply run_go); simp only [go_sem, *])
    | ((with_reducible apply run_cond_f); (focus (simp only [go_sem, *]; done)))
    | ((with_reducible apply runO_alloc); (focus (simp only [go_sem, *]; rfl)); intro pb hpb; have hfb := Heap.ne_of_none hpb; (try simp only [Heap.set_none', stH_none] at hpb); (with_reducible apply runO_go); simp only [go_sem, *])
    | ((with_reducible apply runO_store); (focus (simp only [go_sem]; rfl)); (focus (simp only [go_sem, *]; rfl)); (focus (simp only [go_sem, *]; rfl)); (focus (simp only [go_sem, *]; done)); (focus (simp only [go_sem, *]; done)); (focus (simp only [go_sem, *]; done)); (with_reducible apply runO_go); simp only [go_sem, *, Heap.set_set]))
      refine run_drop (H' := stR H l (s.stS t)) (by (repeat (first | assumption | exact Heap.sub_refl _ | refine Heap.sub_congr ?_ | refine Heap.sub_set ?_ (by assumption) | refine Heap.sub_set2 ?_ (by first | assumption | (simp only [*]; done) | (simp only [Heap.set_none', stH_none, ne_eq, *, not_false_eq_true, and_self]; done)))); done) ?_
      refine IHa.out (row.length - (j + 1)) _ _ (by omega) ⟨j + 1, s.stS t, by omega, rfl, ⟨by rw [HR1.out, if_pos he], by rw [HR2.out, if_pos he], HINV.out.1, HINV.out.2⟩, (by simp only [go_sem, *]), (by simp only [go_sem, *]), (by simp only [go_sem, *]), rfl⟩
    · have hr1 := HR1.out
      rw [if_neg he] at hr1
      replace hr1 : (rpl s0 row).1 = s.err t := hr1
      rw [hr1]
      clear hr1
      have hsub2 : H.sub (stR H l (s.stS t)) := stH_subH hlb hlc
      (with_reducible apply runO_callF known50); simp only [go_sem, *]; refine (c2).mono (fun d H1 hh1 => ?_); obtain ⟨rfl, rfl⟩ := hh1; (with_reducible apply runO_go); simp only [go_sem, *]
      clear c2
      generalize stR H l (s.stS t) = HH at *
      generalize s.err t = er at *
      repeat' (first
    | (with_reducible apply run_seq)
    | ((with_reducible apply run_go); simp only [go_sem, *])
    | ((with_reducible apply run_cond_t); (focus (simp only [go_sem, *]; done)))
    | ((with_reducible apply runO_alloc); (focus (simp only [go_sem, *]; rfl)); intro pb hpb; have hfb := Heap.ne_of_none hpb; (try simp only [Heap.set_none', stH_none] at hpb); (with_reducible apply runO_go); simp only [go_sem, *])
    | ((with_reducible apply runO_store); (focus (simp only [go_sem]; rfl)); (focus (simp only [go_sem, *]; rfl)); (focus (simp only [go_sem, *]; rfl)); (focus (simp only [go_sem, *]; done)); (focus (simp only [go_sem, *]; done)); (focus (simp only [go_sem, *]; done)); (with_reducible apply runO_go); simp only [go_sem, *, Heap.set_set])
    | ((with_reducible apply run_ret Try.func25 res25 (H' := H)); (focus (simp only [go_sem, *]; rfl)); (focus trivial); (focus (repeat (first | assumption | exact Heap.sub_refl _ | refine Heap.sub_congr ?_ | refine Heap.sub_set ?_ (by assumption) | refine Heap.sub_set2 ?_ (by first | assumption | (simp only [*]; done) | (simp only [Heap.set_none', stH_none, ne_eq, *, not_false_eq_true, and_self]; done)))))))
      exact .inl ⟨rfl, rfl⟩
  · obtain rfl : j = row.length := by omega
    rw [List.drop_length, rpl] at hr1 hr2
    have HR1 : Hid _ := hr1
    have HR2 : Hid _ := hr2
    clear hr1 hr2
    repeat' (first
    | (with_reducible apply run_seq)
    | (with_reducible apply run_exit rfl)
    | ((with_reducible apply run_go); simp only [go_sem, *])
    | ((with_reducible apply run_cond_f); (focus (simp only [go_sem, *]; done)))
    | ((with_reducible apply run_ret Try.func25 res25 (H' := stR H l s)); (focus (simp only [go_sem, *]; rfl)); (focus trivial); (focus (repeat (first | assumption | exact Heap.sub_refl _ | refine Heap.sub_congr ?_ | refine Heap.sub_set ?_ (by assumption) | refine Heap.sub_set2 ?_ (by first | assumption | (simp only [*]; done) | (simp only [Heap.set_none', stH_none, ne_eq, *, not_false_eq_true, and_self]; done)))))))
    exact .inr ⟨HR1.out, l, hlb, hlc, hne, hcap, rfl, by rw [HR2.out]⟩
end Go.Proofs.Ytcfeklnmampndaa
