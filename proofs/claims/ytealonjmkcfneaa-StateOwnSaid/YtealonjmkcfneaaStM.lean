/-
  Plain laws of steps, and the law of mutexes.
-/
import Derived.Test.YtealonjmkcfneaaStL
set_option linter.unusedSimpArgs false
set_option linter.unusedVariables false
namespace Go.Proofs.Ytealonjmkcfneaa
open Go Go.Sn Go.RowKit
-- NONE stH_none

@[go_sem] theorem wrap_c0 : IntKind.i64.wrap ((0 : Nat) : Int) = 0 := by decide
@[go_sem] theorem wrap_c1 : IntKind.i64.wrap ((1 : Nat) : Int) = 1 := by decide
attribute [go_sem] BitVec.reduceOfInt BitVec.reduceAnd BitVec.reduceToNat
theorem holA_0 (s : St) : s.holA 0 = s.h0 := rfl
theorem holA_1 (s : St) : s.holA 1 = s.h1 := rfl

set_option maxHeartbeats 8000000 in
theorem stateLocks_call (W : World) (H : Heap) (p : Pg) (fuel : Int) (row : List Int) (hp : p.th.length ≤ 4000000000000000) :
    CallA Try.prog W 5 [.agg (pgC p), .v (.int .i64 fuel), .list (intsC row)] H fun r H' => r = .v (.bool true) := by
  refine call_in Try.func5 rfl Try.ntmps5 (by simp) ?_
  have c0 := fun H => awake2_call W H
  have c1 := fun H => few_call W H p hp
  by_cases hf : fewP p = true
  · rw [hf] at c1
    have F := few_of hf
    by_cases hl : row.length ≤ 200
    · have hl' : ¬ (200 : Int) < (row.length : Int) := by omega
      clear hf
      repeat' (first
    | (with_reducible apply run_seq)
    | (with_reducible apply run_block)
    | (with_reducible apply run_inBlock)
    | (with_reducible apply run_skip)
    | (with_reducible apply run_exit rfl)
    | ((with_reducible apply run_go); simp only [go_sem, *])
    | ((with_reducible apply run_drawGo Cl.zero Cl.zero_plain mixed); (focus kernel_rfl); simp only [go_sem, *])
    | ((with_reducible apply run_cond_t); (focus (simp only [go_sem, *]; done)))
    | ((with_reducible apply run_cond_f); (focus (simp only [go_sem, *]; done)))
    | ((with_reducible apply run_cond); (focus (simp only [go_sem, *]; rfl)); (all_goals intro _))
    | ((with_reducible apply runO_box); (focus (simp only [go_sem, *]; done)); intro pb hpb; have hfb := Heap.ne_of_none hpb; (try simp only [Heap.set_none', stH_none] at hpb); (with_reducible apply runO_go); simp only [go_sem, *])
    | ((with_reducible apply runO_alloc); (focus (simp only [go_sem, *]; rfl)); intro pb hpb; have hfb := Heap.ne_of_none hpb; (try simp only [Heap.set_none', stH_none] at hpb); (with_reducible apply runO_go); simp only [go_sem, *])
    | ((with_reducible apply runO_store); (focus (simp only [go_sem]; rfl)); (focus (simp only [go_sem, *]; rfl)); (focus (simp only [go_sem, *]; rfl)); (focus (simp only [go_sem, *]; done)); (focus (simp only [go_sem, *]; done)); (focus (simp only [go_sem, *]; done)); (with_reducible apply runO_go); simp only [go_sem, *, Heap.set_set])
    | ((with_reducible apply runO_skipF); (focus (simp only [go_sem, *]; rfl)); (focus rfl); (with_reducible apply runO_go); simp only [go_sem, *])
    | ((first | (with_reducible apply runA_and) | (with_reducible apply runO_and) | (with_reducible apply runD_and)); (focus (first | assumption | (simp only [go_sem, *]; done) | (simp only [go_sem, *]; assumption))); (try simp only [go_sem, *]))
    | ((with_reducible apply runO_callF known13); simp only [go_sem, *]; refine (c0 _).use ?_; (with_reducible apply runO_go); simp only [go_sem, *])
        | ((with_reducible apply runO_callFG known14); (focus (simp only [go_sem, *]; rfl)); (focus (intro _; simp only [go_sem, *]; exact c1 _)); (with_reducible apply runO_go); simp only [go_sem, *])
    | ((with_reducible apply run_ret Try.func5 res5 (H' := H)); (focus (simp only [go_sem, *]; rfl)); (focus trivial); (focus (repeat (first | assumption | exact Heap.sub_refl _ | refine Heap.sub_congr ?_ | refine Heap.sub_set ?_ (by assumption) | refine Heap.sub_set2 ?_ (by first | assumption | (simp only [*]; done) | (simp only [Heap.set_none', stH_none, ne_eq, *, not_false_eq_true, and_self]; done)))))))
      clear c0 c1
      generalize pb = p3 at *
      (with_reducible apply runO_callF known15); simp only [go_sem, *]
      refine (stNew_call W _ p fuel (fun c hc => by have := F.code c hc; omega)).mono (fun d1 H1 hh => ?_)
      rcases hh with ⟨hok, l, hlb, hlc, hne, hcap, rfl, rfl⟩ | ⟨_, rfl, rfl⟩
      rotate_left
      · (with_reducible apply runO_go); simp only [go_sem, *]
        repeat' (first
    | (with_reducible apply run_seq)
    | (with_reducible apply run_block)
    | (with_reducible apply run_inBlock)
    | (with_reducible apply run_skip)
    | (with_reducible apply run_exit rfl)
    | ((with_reducible apply run_go); simp only [go_sem, *])
    | ((with_reducible apply run_drawGo Cl.zero Cl.zero_plain mixed); (focus kernel_rfl); simp only [go_sem, *])
    | ((with_reducible apply run_cond_t); (focus (simp only [go_sem, *]; done)))
    | ((with_reducible apply run_cond_f); (focus (simp only [go_sem, *]; done)))
    | ((with_reducible apply run_cond); (focus (simp only [go_sem, *]; rfl)); (all_goals intro _))
    | ((with_reducible apply runO_box); (focus (simp only [go_sem, *]; done)); intro pb hpb; have hfb := Heap.ne_of_none hpb; (try simp only [Heap.set_none', stH_none] at hpb); (with_reducible apply runO_go); simp only [go_sem, *])
    | ((with_reducible apply runO_alloc); (focus (simp only [go_sem, *]; rfl)); intro pb hpb; have hfb := Heap.ne_of_none hpb; (try simp only [Heap.set_none', stH_none] at hpb); (with_reducible apply runO_go); simp only [go_sem, *])
    | ((with_reducible apply runO_store); (focus (simp only [go_sem]; rfl)); (focus (simp only [go_sem, *]; rfl)); (focus (simp only [go_sem, *]; rfl)); (focus (simp only [go_sem, *]; done)); (focus (simp only [go_sem, *]; done)); (focus (simp only [go_sem, *]; done)); (with_reducible apply runO_go); simp only [go_sem, *, Heap.set_set])
    | ((with_reducible apply runO_skipF); (focus (simp only [go_sem, *]; rfl)); (focus rfl); (with_reducible apply runO_go); simp only [go_sem, *])
    | ((first | (with_reducible apply runA_and) | (with_reducible apply runO_and) | (with_reducible apply runD_and)); (focus (first | assumption | (simp only [go_sem, *]; done) | (simp only [go_sem, *]; assumption))); (try simp only [go_sem, *]))
    | ((with_reducible apply run_ret Try.func5 res5 (H' := H)); (focus (simp only [go_sem, *]; rfl)); (focus trivial); (focus (repeat (first | assumption | exact Heap.sub_refl _ | refine Heap.sub_congr ?_ | refine Heap.sub_set ?_ (by assumption) | refine Heap.sub_set2 ?_ (by first | assumption | (simp only [*]; done) | (simp only [Heap.set_none', stH_none, ne_eq, *, not_false_eq_true, and_self]; done)))))))
        rfl
      (with_reducible apply runO_go); simp only [go_sem, *]
      generalize hK : H.set p3 (.cells (pgC p) 24) = K at *
      repeat' (first
    | (with_reducible apply run_seq)
    | (with_reducible apply run_block)
    | (with_reducible apply run_inBlock)
    | (with_reducible apply run_skip)
    | (with_reducible apply run_exit rfl)
    | ((with_reducible apply run_go); simp only [go_sem, *])
    | ((with_reducible apply run_drawGo Cl.zero Cl.zero_plain mixed); (focus kernel_rfl); simp only [go_sem, *])
    | ((with_reducible apply run_cond_t); (focus (simp only [go_sem, *]; done)))
    | ((with_reducible apply run_cond_f); (focus (simp only [go_sem, *]; done)))
    | ((with_reducible apply run_cond); (focus (simp only [go_sem, *]; rfl)); (all_goals intro _))
    | ((with_reducible apply runO_box); (focus (simp only [go_sem, *]; done)); intro pb hpb; have hfb := Heap.ne_of_none hpb; (try simp only [Heap.set_none', stH_none] at hpb); (with_reducible apply runO_go); simp only [go_sem, *])
    | ((with_reducible apply runO_alloc); (focus (simp only [go_sem, *]; rfl)); intro pb hpb; have hfb := Heap.ne_of_none hpb; (try simp only [Heap.set_none', stH_none] at hpb); (with_reducible apply runO_go); simp only [go_sem, *])
    | ((with_reducible apply runO_store); (focus (simp only [go_sem]; rfl)); (focus (simp only [go_sem, *]; rfl)); (focus (simp only [go_sem, *]; rfl)); (focus (simp only [go_sem, *]; done)); (focus (simp only [go_sem, *]; done)); (focus (simp only [go_sem, *]; done)); (with_reducible apply runO_go); simp only [go_sem, *, Heap.set_set])
    | ((with_reducible apply runO_skipF); (focus (simp only [go_sem, *]; rfl)); (focus rfl); (with_reducible apply runO_go); simp only [go_sem, *])
    | ((first | (with_reducible apply runA_and) | (with_reducible apply runO_and) | (with_reducible apply runD_and)); (focus (first | assumption | (simp only [go_sem, *]; done) | (simp only [go_sem, *]; assumption))); (try simp only [go_sem, *]))
    | ((with_reducible apply run_ret Try.func5 res5 (H' := H)); (focus (simp only [go_sem, *]; rfl)); (focus trivial); (focus (repeat (first | assumption | exact Heap.sub_refl _ | refine Heap.sub_congr ?_ | refine Heap.sub_set ?_ (by assumption) | refine Heap.sub_set2 ?_ (by first | assumption | (simp only [*]; done) | (simp only [Heap.set_none', stH_none, ne_eq, *, not_false_eq_true, and_self]; done)))))))
      have hs0 := okN_ok hok
      clear hok hfb hpb hK
      refine run_loop (fun na ea Ha => ∃ (k : Nat) (s : St), k ≤ row.length ∧ na = row.length - k ∧ (OkSt s ∧ s.p = p ∧ -1 ≤ s.h0 ∧ -1 ≤ s.h1) ∧ ea 7 = .v (.pointer (some ⟨l.b, 0, none⟩)) ∧ ea 36 = .list (intsC row) ∧ ea 37 = .v (.int .i64 (row.length : Int)) ∧ ea 38 = .v (.int .i64 (k : Int)) ∧ stP K l s = Ha) (row.length)
          ⟨0, newS p fuel, Nat.zero_le _, rfl, ⟨hs0, rfl, by show (-1 : Int) ≤ -1; omega, by show (-1 : Int) ≤ -1; omega⟩, (by simp only [go_sem, *]), (by simp only [go_sem, *]), (by simp only [go_sem, *]), (by simp only [go_sem] <;> rfl), rfl⟩ ?_
      rintro na ea Ha ih ⟨k, s, ak, rfl, va0, as7, as36, as37, as38, rfl⟩
      have IHa : Hid _ := ih
      clear ih
      have Ia0 : Hid _ := va0
      clear va0
      by_cases hlt : k < row.length
      · have hw := wrap_succ (k := k) (by omega)
        obtain ⟨hs, hsp, hh⟩ := Ia0.out
        have hat : AtP (stP K l s) l s := stH_at hne (by rw [hs.len, hsp]; exact hcap)
        generalize ht : row.getD k default = t at *
        have q0 := fun H' (h : AtP H' l s) => mHolder_call W h 0
        have q1 := fun H' (h : AtP H' l s) => mHolder_call W h 1
        have c2 := fun H' (h : AtP H' l s) => mStep_call W H' l s t h hs
        have hat2 : AtP (stP K l (s.stS t)) l (s.stS t) := stH_at hne (by rw [(ok_stS hs t).len, stS_p, hsp]; exact hcap)
        have q2 := fun H' (h : AtP H' l (s.stS t)) => mHolder_call W h 0
        have q3 := fun H' (h : AtP H' l (s.stS t)) => mHolder_call W h 1
        have hlaw := locks_step hs t hh
        have hinv : OkSt (s.stS t) ∧ (s.stS t).p = p := ⟨ok_stS hs t, by rw [stS_p, hsp]⟩
        have HINV : Hid _ := hinv
        have HH : Hid _ := hh
        have HLAW : Hid _ := hlaw
        have hE : s.stE t = if s.err t = 0 then s.nxt t else ev0 := rfl
        have HE : Hid _ := hE
        rw [holA_0] at q0 q2
        rw [holA_1] at q1 q3
        clear hlaw hE hh hsp hs hinv
        repeat' (first
    | (with_reducible apply run_seq)
    | (with_reducible apply run_block)
    | (with_reducible apply run_inBlock)
    | (with_reducible apply run_skip)
    | (with_reducible apply run_exit rfl)
    | ((with_reducible apply run_go); simp only [go_sem, *])
    | ((with_reducible apply run_drawGo Cl.zero Cl.zero_plain mixed); (focus kernel_rfl); simp only [go_sem, *])
    | ((with_reducible apply run_cond_t); (focus (simp only [go_sem, *]; done)))
    | ((with_reducible apply run_cond_f); (focus (simp only [go_sem, *]; done)))
    | ((with_reducible apply run_cond); (focus (simp only [go_sem, *]; rfl)); (all_goals intro _))
    | ((with_reducible apply runO_box); (focus (simp only [go_sem, *]; done)); intro pb hpb; have hfb := Heap.ne_of_none hpb; (try simp only [Heap.set_none', stH_none] at hpb); (with_reducible apply runO_go); simp only [go_sem, *])
    | ((with_reducible apply runO_alloc); (focus (simp only [go_sem, *]; rfl)); intro pb hpb; have hfb := Heap.ne_of_none hpb; (try simp only [Heap.set_none', stH_none] at hpb); (with_reducible apply runO_go); simp only [go_sem, *])
    | ((with_reducible apply runO_store); (focus (simp only [go_sem]; rfl)); (focus (simp only [go_sem, *]; rfl)); (focus (simp only [go_sem, *]; rfl)); (focus (simp only [go_sem, *]; done)); (focus (simp only [go_sem, *]; done)); (focus (simp only [go_sem, *]; done)); (with_reducible apply runO_go); simp only [go_sem, *, Heap.set_set])
    | ((with_reducible apply runO_skipF); (focus (simp only [go_sem, *]; rfl)); (focus rfl); (with_reducible apply runO_go); simp only [go_sem, *])
    | ((first | (with_reducible apply runA_and) | (with_reducible apply runO_and) | (with_reducible apply runD_and)); (focus (first | assumption | (simp only [go_sem, *]; done) | (simp only [go_sem, *]; assumption))); (try simp only [go_sem, *]))
    | ((with_reducible apply runO_callF known20); simp only [go_sem, *]; refine (q0 _ (hat.mono (by (repeat (first | assumption | exact Heap.sub_refl _ | refine Heap.sub_congr ?_ | refine Heap.sub_set ?_ (by assumption) | refine Heap.sub_set2 ?_ (by first | assumption | (simp only [*]; done) | (simp only [Heap.set_none', stH_none, ne_eq, *, not_false_eq_true, and_self]; done)))); done))).use ?_; (with_reducible apply runO_go); simp only [go_sem, *])
    | ((with_reducible apply runD_callF known20); (focus rfl); (focus (simp only [go_sem, *]; exact q0 _ (hat.mono (by (repeat (first | assumption | exact Heap.sub_refl _ | refine Heap.sub_congr ?_ | refine Heap.sub_set ?_ (by assumption) | refine Heap.sub_set2 ?_ (by first | assumption | (simp only [*]; done) | (simp only [Heap.set_none', stH_none, ne_eq, *, not_false_eq_true, and_self]; done)))); done)))); (with_reducible first | apply runD_go Cl.zero_plain | apply runD_goC); simp only [go_sem, *])
          | ((with_reducible apply runO_callF known20); simp only [go_sem, *]; refine (q1 _ (hat.mono (by (repeat (first | assumption | exact Heap.sub_refl _ | refine Heap.sub_congr ?_ | refine Heap.sub_set ?_ (by assumption) | refine Heap.sub_set2 ?_ (by first | assumption | (simp only [*]; done) | (simp only [Heap.set_none', stH_none, ne_eq, *, not_false_eq_true, and_self]; done)))); done))).use ?_; (with_reducible apply runO_go); simp only [go_sem, *])
    | ((with_reducible apply runD_callF known20); (focus rfl); (focus (simp only [go_sem, *]; exact q1 _ (hat.mono (by (repeat (first | assumption | exact Heap.sub_refl _ | refine Heap.sub_congr ?_ | refine Heap.sub_set ?_ (by assumption) | refine Heap.sub_set2 ?_ (by first | assumption | (simp only [*]; done) | (simp only [Heap.set_none', stH_none, ne_eq, *, not_false_eq_true, and_self]; done)))); done)))); (with_reducible first | apply runD_go Cl.zero_plain | apply runD_goC); simp only [go_sem, *])
    | ((with_reducible apply run_ret Try.func5 res5 (H' := H)); (focus (simp only [go_sem, *]; rfl)); (focus trivial); (focus (repeat (first | assumption | exact Heap.sub_refl _ | refine Heap.sub_congr ?_ | refine Heap.sub_set ?_ (by assumption) | refine Heap.sub_set2 ?_ (by first | assumption | (simp only [*]; done) | (simp only [Heap.set_none', stH_none, ne_eq, *, not_false_eq_true, and_self]; done)))))))
        (with_reducible apply runO_callF known18); simp only [go_sem, *]; refine (c2 _ (hat.mono (by (repeat (first | assumption | exact Heap.sub_refl _ | refine Heap.sub_congr ?_ | refine Heap.sub_set ?_ (by assumption) | refine Heap.sub_set2 ?_ (by first | assumption | (simp only [*]; done) | (simp only [Heap.set_none', stH_none, ne_eq, *, not_false_eq_true, and_self]; done)))); done))).mono (fun d H1 hh1 => ?_); obtain ⟨rfl, rfl⟩ := hh1; (with_reducible apply runO_go); simp only [go_sem, *]
        clear q0 q1 c2
        rcases HLAW.out with ⟨he, h4, ht0, hob⟩ | ⟨he, h4, hob⟩ | ⟨hno, hA, hB⟩
        · have hE := HE.out
          rw [if_pos he] at hE
          clear HE HLAW
          rw [hE, he]
          clear hE
          rcases hob with ⟨ho, hA, hB, hC⟩ | ⟨ho, hA, hB, hC⟩
          · have hk1 : -1 ≤ (s.stS t).h0 := by rw [hB]; have := HH.out; omega
            have hk2 : -1 ≤ (s.stS t).h1 := by rw [hC]; have := HH.out; omega
            have HK1 : Hid _ := hk1
            have HK2 : Hid _ := hk2
            clear hk1 hk2
            generalize s.nxt t = e at *
            obtain ⟨e1, e2, e3, e4⟩ := e
            simp only at h4 ho
            subst h4
            subst ho
            clear HH
            repeat' (first
    | (with_reducible apply run_seq)
    | (with_reducible apply run_block)
    | (with_reducible apply run_inBlock)
    | (with_reducible apply run_skip)
    | (with_reducible apply run_exit rfl)
    | ((with_reducible apply run_go); simp only [go_sem, *])
    | ((with_reducible apply run_drawGo Cl.zero Cl.zero_plain mixed); (focus kernel_rfl); simp only [go_sem, *])
    | ((with_reducible apply run_cond_t); (focus (simp only [go_sem, *]; done)))
    | ((with_reducible apply run_cond_f); (focus (simp only [go_sem, *]; done)))
    | ((with_reducible apply run_cond); (focus (simp only [go_sem, *]; rfl)); (all_goals intro _))
    | ((with_reducible apply runO_box); (focus (simp only [go_sem, *]; done)); intro pb hpb; have hfb := Heap.ne_of_none hpb; (try simp only [Heap.set_none', stH_none] at hpb); (with_reducible apply runO_go); simp only [go_sem, *])
    | ((with_reducible apply runO_alloc); (focus (simp only [go_sem, *]; rfl)); intro pb hpb; have hfb := Heap.ne_of_none hpb; (try simp only [Heap.set_none', stH_none] at hpb); (with_reducible apply runO_go); simp only [go_sem, *])
    | ((with_reducible apply runO_store); (focus (simp only [go_sem]; rfl)); (focus (simp only [go_sem, *]; rfl)); (focus (simp only [go_sem, *]; rfl)); (focus (simp only [go_sem, *]; done)); (focus (simp only [go_sem, *]; done)); (focus (simp only [go_sem, *]; done)); (with_reducible apply runO_go); simp only [go_sem, *, Heap.set_set])
    | ((with_reducible apply runO_skipF); (focus (simp only [go_sem, *]; rfl)); (focus rfl); (with_reducible apply runO_go); simp only [go_sem, *])
    | ((first | (with_reducible apply runA_and) | (with_reducible apply runO_and) | (with_reducible apply runD_and)); (focus (first | assumption | (simp only [go_sem, *]; done) | (simp only [go_sem, *]; assumption))); (try simp only [go_sem, *]))
    | ((with_reducible apply runO_callF known20); simp only [go_sem, *]; refine (q2 _ (hat2.mono (by (repeat (first | assumption | exact Heap.sub_refl _ | refine Heap.sub_congr ?_ | refine Heap.sub_set ?_ (by assumption) | refine Heap.sub_set2 ?_ (by first | assumption | (simp only [*]; done) | (simp only [Heap.set_none', stH_none, ne_eq, *, not_false_eq_true, and_self]; done)))); done))).use ?_; (with_reducible apply runO_go); simp only [go_sem, *])
    | ((with_reducible apply runD_callF known20); (focus rfl); (focus (simp only [go_sem, *]; exact q2 _ (hat2.mono (by (repeat (first | assumption | exact Heap.sub_refl _ | refine Heap.sub_congr ?_ | refine Heap.sub_set ?_ (by assumption) | refine Heap.sub_set2 ?_ (by first | assumption | (simp only [*]; done) | (simp only [Heap.set_none', stH_none, ne_eq, *, not_false_eq_true, and_self]; done)))); done)))); (with_reducible first | apply runD_go Cl.zero_plain | apply runD_goC); simp only [go_sem, *])
              | ((with_reducible apply runO_callF known20); simp only [go_sem, *]; refine (q3 _ (hat2.mono (by (repeat (first | assumption | exact Heap.sub_refl _ | refine Heap.sub_congr ?_ | refine Heap.sub_set ?_ (by assumption) | refine Heap.sub_set2 ?_ (by first | assumption | (simp only [*]; done) | (simp only [Heap.set_none', stH_none, ne_eq, *, not_false_eq_true, and_self]; done)))); done))).use ?_; (with_reducible apply runO_go); simp only [go_sem, *])
    | ((with_reducible apply runD_callF known20); (focus rfl); (focus (simp only [go_sem, *]; exact q3 _ (hat2.mono (by (repeat (first | assumption | exact Heap.sub_refl _ | refine Heap.sub_congr ?_ | refine Heap.sub_set ?_ (by assumption) | refine Heap.sub_set2 ?_ (by first | assumption | (simp only [*]; done) | (simp only [Heap.set_none', stH_none, ne_eq, *, not_false_eq_true, and_self]; done)))); done)))); (with_reducible first | apply runD_go Cl.zero_plain | apply runD_goC); simp only [go_sem, *])
    | ((with_reducible apply run_ret Try.func5 res5 (H' := H)); (focus (simp only [go_sem, *]; rfl)); (focus trivial); (focus (repeat (first | assumption | exact Heap.sub_refl _ | refine Heap.sub_congr ?_ | refine Heap.sub_set ?_ (by assumption) | refine Heap.sub_set2 ?_ (by first | assumption | (simp only [*]; done) | (simp only [Heap.set_none', stH_none, ne_eq, *, not_false_eq_true, and_self]; done)))))))
            refine run_drop (H' := stP K l (s.stS t)) (by (repeat (first | assumption | exact Heap.sub_refl _ | refine Heap.sub_congr ?_ | refine Heap.sub_set ?_ (by assumption) | refine Heap.sub_set2 ?_ (by first | assumption | (simp only [*]; done) | (simp only [Heap.set_none', stH_none, ne_eq, *, not_false_eq_true, and_self]; done)))); done) ?_
            refine IHa.out (row.length - (k + 1)) _ _ (by omega) ⟨k + 1, s.stS t, by omega, rfl, ⟨HINV.out.1, HINV.out.2, HK1.out, HK2.out⟩, (by simp only [go_sem, *]), (by simp only [go_sem, *]), (by simp only [go_sem, *]), (by simp only [go_sem, *]), rfl⟩
          · have hk1 : -1 ≤ (s.stS t).h0 := by rw [hB]; have := HH.out; omega
            have hk2 : -1 ≤ (s.stS t).h1 := by rw [hC]; have := HH.out; omega
            have HK1 : Hid _ := hk1
            have HK2 : Hid _ := hk2
            clear hk1 hk2
            generalize s.nxt t = e at *
            obtain ⟨e1, e2, e3, e4⟩ := e
            simp only at h4 ho
            subst h4
            subst ho
            clear HH
            repeat' (first
    | (with_reducible apply run_seq)
    | (with_reducible apply run_block)
    | (with_reducible apply run_inBlock)
    | (with_reducible apply run_skip)
    | (with_reducible apply run_exit rfl)
    | ((with_reducible apply run_go); simp only [go_sem, *])
    | ((with_reducible apply run_drawGo Cl.zero Cl.zero_plain mixed); (focus kernel_rfl); simp only [go_sem, *])
    | ((with_reducible apply run_cond_t); (focus (simp only [go_sem, *]; done)))
    | ((with_reducible apply run_cond_f); (focus (simp only [go_sem, *]; done)))
    | ((with_reducible apply run_cond); (focus (simp only [go_sem, *]; rfl)); (all_goals intro _))
    | ((with_reducible apply runO_box); (focus (simp only [go_sem, *]; done)); intro pb hpb; have hfb := Heap.ne_of_none hpb; (try simp only [Heap.set_none', stH_none] at hpb); (with_reducible apply runO_go); simp only [go_sem, *])
    | ((with_reducible apply runO_alloc); (focus (simp only [go_sem, *]; rfl)); intro pb hpb; have hfb := Heap.ne_of_none hpb; (try simp only [Heap.set_none', stH_none] at hpb); (with_reducible apply runO_go); simp only [go_sem, *])
    | ((with_reducible apply runO_store); (focus (simp only [go_sem]; rfl)); (focus (simp only [go_sem, *]; rfl)); (focus (simp only [go_sem, *]; rfl)); (focus (simp only [go_sem, *]; done)); (focus (simp only [go_sem, *]; done)); (focus (simp only [go_sem, *]; done)); (with_reducible apply runO_go); simp only [go_sem, *, Heap.set_set])
    | ((with_reducible apply runO_skipF); (focus (simp only [go_sem, *]; rfl)); (focus rfl); (with_reducible apply runO_go); simp only [go_sem, *])
    | ((first | (with_reducible apply runA_and) | (with_reducible apply runO_and) | (with_reducible apply runD_and)); (focus (first | assumption | (simp only [go_sem, *]; done) | (simp only [go_sem, *]; assumption))); (try simp only [go_sem, *]))
    | ((with_reducible apply runO_callF known20); simp only [go_sem, *]; refine (q2 _ (hat2.mono (by (repeat (first | assumption | exact Heap.sub_refl _ | refine Heap.sub_congr ?_ | refine Heap.sub_set ?_ (by assumption) | refine Heap.sub_set2 ?_ (by first | assumption | (simp only [*]; done) | (simp only [Heap.set_none', stH_none, ne_eq, *, not_false_eq_true, and_self]; done)))); done))).use ?_; (with_reducible apply runO_go); simp only [go_sem, *])
    | ((with_reducible apply runD_callF known20); (focus rfl); (focus (simp only [go_sem, *]; exact q2 _ (hat2.mono (by (repeat (first | assumption | exact Heap.sub_refl _ | refine Heap.sub_congr ?_ | refine Heap.sub_set ?_ (by assumption) | refine Heap.sub_set2 ?_ (by first | assumption | (simp only [*]; done) | (simp only [Heap.set_none', stH_none, ne_eq, *, not_false_eq_true, and_self]; done)))); done)))); (with_reducible first | apply runD_go Cl.zero_plain | apply runD_goC); simp only [go_sem, *])
              | ((with_reducible apply runO_callF known20); simp only [go_sem, *]; refine (q3 _ (hat2.mono (by (repeat (first | assumption | exact Heap.sub_refl _ | refine Heap.sub_congr ?_ | refine Heap.sub_set ?_ (by assumption) | refine Heap.sub_set2 ?_ (by first | assumption | (simp only [*]; done) | (simp only [Heap.set_none', stH_none, ne_eq, *, not_false_eq_true, and_self]; done)))); done))).use ?_; (with_reducible apply runO_go); simp only [go_sem, *])
    | ((with_reducible apply runD_callF known20); (focus rfl); (focus (simp only [go_sem, *]; exact q3 _ (hat2.mono (by (repeat (first | assumption | exact Heap.sub_refl _ | refine Heap.sub_congr ?_ | refine Heap.sub_set ?_ (by assumption) | refine Heap.sub_set2 ?_ (by first | assumption | (simp only [*]; done) | (simp only [Heap.set_none', stH_none, ne_eq, *, not_false_eq_true, and_self]; done)))); done)))); (with_reducible first | apply runD_go Cl.zero_plain | apply runD_goC); simp only [go_sem, *])
    | ((with_reducible apply run_ret Try.func5 res5 (H' := H)); (focus (simp only [go_sem, *]; rfl)); (focus trivial); (focus (repeat (first | assumption | exact Heap.sub_refl _ | refine Heap.sub_congr ?_ | refine Heap.sub_set ?_ (by assumption) | refine Heap.sub_set2 ?_ (by first | assumption | (simp only [*]; done) | (simp only [Heap.set_none', stH_none, ne_eq, *, not_false_eq_true, and_self]; done)))))))
            refine run_drop (H' := stP K l (s.stS t)) (by (repeat (first | assumption | exact Heap.sub_refl _ | refine Heap.sub_congr ?_ | refine Heap.sub_set ?_ (by assumption) | refine Heap.sub_set2 ?_ (by first | assumption | (simp only [*]; done) | (simp only [Heap.set_none', stH_none, ne_eq, *, not_false_eq_true, and_self]; done)))); done) ?_
            refine IHa.out (row.length - (k + 1)) _ _ (by omega) ⟨k + 1, s.stS t, by omega, rfl, ⟨HINV.out.1, HINV.out.2, HK1.out, HK2.out⟩, (by simp only [go_sem, *]), (by simp only [go_sem, *]), (by simp only [go_sem, *]), (by simp only [go_sem, *]), rfl⟩
        · have hE := HE.out
          rw [if_pos he] at hE
          clear HE HLAW
          rw [hE, he]
          clear hE
          rcases hob with ⟨ho, hA, hB, hC⟩ | ⟨ho, hA, hB, hC⟩
          · have hk1 : -1 ≤ (s.stS t).h0 := by rw [hB]; have := HH.out; omega
            have hk2 : -1 ≤ (s.stS t).h1 := by rw [hC]; have := HH.out; omega
            have HK1 : Hid _ := hk1
            have HK2 : Hid _ := hk2
            clear hk1 hk2
            generalize s.nxt t = e at *
            obtain ⟨e1, e2, e3, e4⟩ := e
            simp only at h4 ho
            subst h4
            subst ho
            clear HH
            repeat' (first
    | (with_reducible apply run_seq)
    | (with_reducible apply run_block)
    | (with_reducible apply run_inBlock)
    | (with_reducible apply run_skip)
    | (with_reducible apply run_exit rfl)
    | ((with_reducible apply run_go); simp only [go_sem, *])
    | ((with_reducible apply run_drawGo Cl.zero Cl.zero_plain mixed); (focus kernel_rfl); simp only [go_sem, *])
    | ((with_reducible apply run_cond_t); (focus (simp only [go_sem, *]; done)))
    | ((with_reducible apply run_cond_f); (focus (simp only [go_sem, *]; done)))
    | ((with_reducible apply run_cond); (focus (simp only [go_sem, *]; rfl)); (all_goals intro _))
    | ((with_reducible apply runO_box); (focus (simp only [go_sem, *]; done)); intro pb hpb; have hfb := Heap.ne_of_none hpb; (try simp only [Heap.set_none', stH_none] at hpb); (with_reducible apply runO_go); simp only [go_sem, *])
    | ((with_reducible apply runO_alloc); (focus (simp only [go_sem, *]; rfl)); intro pb hpb; have hfb := Heap.ne_of_none hpb; (try simp only [Heap.set_none', stH_none] at hpb); (with_reducible apply runO_go); simp only [go_sem, *])
    | ((with_reducible apply runO_store); (focus (simp only [go_sem]; rfl)); (focus (simp only [go_sem, *]; rfl)); (focus (simp only [go_sem, *]; rfl)); (focus (simp only [go_sem, *]; done)); (focus (simp only [go_sem, *]; done)); (focus (simp only [go_sem, *]; done)); (with_reducible apply runO_go); simp only [go_sem, *, Heap.set_set])
    | ((with_reducible apply runO_skipF); (focus (simp only [go_sem, *]; rfl)); (focus rfl); (with_reducible apply runO_go); simp only [go_sem, *])
    | ((first | (with_reducible apply runA_and) | (with_reducible apply runO_and) | (with_reducible apply runD_and)); (focus (first | assumption | (simp only [go_sem, *]; done) | (simp only [go_sem, *]; assumption))); (try simp only [go_sem, *]))
    | ((with_reducible apply runO_callF known20); simp only [go_sem, *]; refine (q2 _ (hat2.mono (by (repeat (first | assumption | exact Heap.sub_refl _ | refine Heap.sub_congr ?_ | refine Heap.sub_set ?_ (by assumption) | refine Heap.sub_set2 ?_ (by first | assumption | (simp only [*]; done) | (simp only [Heap.set_none', stH_none, ne_eq, *, not_false_eq_true, and_self]; done)))); done))).use ?_; (with_reducible apply runO_go); simp only [go_sem, *])
    | ((with_reducible apply runD_callF known20); (focus rfl); (focus (simp only [go_sem, *]; exact q2 _ (hat2.mono (by (repeat (first | assumption | exact Heap.sub_refl _ | refine Heap.sub_congr ?_ | refine Heap.sub_set ?_ (by assumption) | refine Heap.sub_set2 ?_ (by first | assumption | (simp only [*]; done) | (simp only [Heap.set_none', stH_none, ne_eq, *, not_false_eq_true, and_self]; done)))); done)))); (with_reducible first | apply runD_go Cl.zero_plain | apply runD_goC); simp only [go_sem, *])
              | ((with_reducible apply runO_callF known20); simp only [go_sem, *]; refine (q3 _ (hat2.mono (by (repeat (first | assumption | exact Heap.sub_refl _ | refine Heap.sub_congr ?_ | refine Heap.sub_set ?_ (by assumption) | refine Heap.sub_set2 ?_ (by first | assumption | (simp only [*]; done) | (simp only [Heap.set_none', stH_none, ne_eq, *, not_false_eq_true, and_self]; done)))); done))).use ?_; (with_reducible apply runO_go); simp only [go_sem, *])
    | ((with_reducible apply runD_callF known20); (focus rfl); (focus (simp only [go_sem, *]; exact q3 _ (hat2.mono (by (repeat (first | assumption | exact Heap.sub_refl _ | refine Heap.sub_congr ?_ | refine Heap.sub_set ?_ (by assumption) | refine Heap.sub_set2 ?_ (by first | assumption | (simp only [*]; done) | (simp only [Heap.set_none', stH_none, ne_eq, *, not_false_eq_true, and_self]; done)))); done)))); (with_reducible first | apply runD_go Cl.zero_plain | apply runD_goC); simp only [go_sem, *])
    | ((with_reducible apply run_ret Try.func5 res5 (H' := H)); (focus (simp only [go_sem, *]; rfl)); (focus trivial); (focus (repeat (first | assumption | exact Heap.sub_refl _ | refine Heap.sub_congr ?_ | refine Heap.sub_set ?_ (by assumption) | refine Heap.sub_set2 ?_ (by first | assumption | (simp only [*]; done) | (simp only [Heap.set_none', stH_none, ne_eq, *, not_false_eq_true, and_self]; done)))))))
            refine run_drop (H' := stP K l (s.stS t)) (by (repeat (first | assumption | exact Heap.sub_refl _ | refine Heap.sub_congr ?_ | refine Heap.sub_set ?_ (by assumption) | refine Heap.sub_set2 ?_ (by first | assumption | (simp only [*]; done) | (simp only [Heap.set_none', stH_none, ne_eq, *, not_false_eq_true, and_self]; done)))); done) ?_
            refine IHa.out (row.length - (k + 1)) _ _ (by omega) ⟨k + 1, s.stS t, by omega, rfl, ⟨HINV.out.1, HINV.out.2, HK1.out, HK2.out⟩, (by simp only [go_sem, *]), (by simp only [go_sem, *]), (by simp only [go_sem, *]), (by simp only [go_sem, *]), rfl⟩
          · have hk1 : -1 ≤ (s.stS t).h0 := by rw [hB]; have := HH.out; omega
            have hk2 : -1 ≤ (s.stS t).h1 := by rw [hC]; have := HH.out; omega
            have HK1 : Hid _ := hk1
            have HK2 : Hid _ := hk2
            clear hk1 hk2
            generalize s.nxt t = e at *
            obtain ⟨e1, e2, e3, e4⟩ := e
            simp only at h4 ho
            subst h4
            subst ho
            clear HH
            repeat' (first
    | (with_reducible apply run_seq)
    | (with_reducible apply run_block)
    | (with_reducible apply run_inBlock)
    | (with_reducible apply run_skip)
    | (with_reducible apply run_exit rfl)
    | ((with_reducible apply run_go); simp only [go_sem, *])
    | ((with_reducible apply run_drawGo Cl.zero Cl.zero_plain mixed); (focus kernel_rfl); simp only [go_sem, *])
    | ((with_reducible apply run_cond_t); (focus (simp only [go_sem, *]; done)))
    | ((with_reducible apply run_cond_f); (focus (simp only [go_sem, *]; done)))
    | ((with_reducible apply run_cond); (focus (simp only [go_sem, *]; rfl)); (all_goals intro _))
    | ((with_reducible apply runO_box); (focus (simp only [go_sem, *]; done)); intro pb hpb; have hfb := Heap.ne_of_none hpb; (try simp only [Heap.set_none', stH_none] at hpb); (with_reducible apply runO_go); simp only [go_sem, *])
    | ((with_reducible apply runO_alloc); (focus (simp only [go_sem, *]; rfl)); intro pb hpb; have hfb := Heap.ne_of_none hpb; (try simp only [Heap.set_none', stH_none] at hpb); (with_reducible apply runO_go); simp only [go_sem, *])
    | ((with_reducible apply runO_store); (focus (simp only [go_sem]; rfl)); (focus (simp only [go_sem, *]; rfl)); (focus (simp only [go_sem, *]; rfl)); (focus (simp only [go_sem, *]; done)); (focus (simp only [go_sem, *]; done)); (focus (simp only [go_sem, *]; done)); (with_reducible apply runO_go); simp only [go_sem, *, Heap.set_set])
    | ((with_reducible apply runO_skipF); (focus (simp only [go_sem, *]; rfl)); (focus rfl); (with_reducible apply runO_go); simp only [go_sem, *])
    | ((first | (with_reducible apply runA_and) | (with_reducible apply runO_and) | (with_reducible apply runD_and)); (focus (first | assumption | (simp only [go_sem, *]; done) | (simp only [go_sem, *]; assumption))); (try simp only [go_sem, *]))
    | ((with_reducible apply runO_callF known20); simp only [go_sem, *]; refine (q2 _ (hat2.mono (by (repeat (first | assumption | exact Heap.sub_refl _ | refine Heap.sub_congr ?_ | refine Heap.sub_set ?_ (by assumption) | refine Heap.sub_set2 ?_ (by first | assumption | (simp only [*]; done) | (simp only [Heap.set_none', stH_none, ne_eq, *, not_false_eq_true, and_self]; done)))); done))).use ?_; (with_reducible apply runO_go); simp only [go_sem, *])
    | ((with_reducible apply runD_callF known20); (focus rfl); (focus (simp only [go_sem, *]; exact q2 _ (hat2.mono (by (repeat (first | assumption | exact Heap.sub_refl _ | refine Heap.sub_congr ?_ | refine Heap.sub_set ?_ (by assumption) | refine Heap.sub_set2 ?_ (by first | assumption | (simp only [*]; done) | (simp only [Heap.set_none', stH_none, ne_eq, *, not_false_eq_true, and_self]; done)))); done)))); (with_reducible first | apply runD_go Cl.zero_plain | apply runD_goC); simp only [go_sem, *])
              | ((with_reducible apply runO_callF known20); simp only [go_sem, *]; refine (q3 _ (hat2.mono (by (repeat (first | assumption | exact Heap.sub_refl _ | refine Heap.sub_congr ?_ | refine Heap.sub_set ?_ (by assumption) | refine Heap.sub_set2 ?_ (by first | assumption | (simp only [*]; done) | (simp only [Heap.set_none', stH_none, ne_eq, *, not_false_eq_true, and_self]; done)))); done))).use ?_; (with_reducible apply runO_go); simp only [go_sem, *])
    | ((with_reducible apply runD_callF known20); (focus rfl); (focus (simp only [go_sem, *]; exact q3 _ (hat2.mono (by (repeat (first | assumption | exact Heap.sub_refl _ | refine Heap.sub_congr ?_ | refine Heap.sub_set ?_ (by assumption) | refine Heap.sub_set2 ?_ (by first | assumption | (simp only [*]; done) | (simp only [Heap.set_none', stH_none, ne_eq, *, not_false_eq_true, and_self]; done)))); done)))); (with_reducible first | apply runD_go Cl.zero_plain | apply runD_goC); simp only [go_sem, *])
    | ((with_reducible apply run_ret Try.func5 res5 (H' := H)); (focus (simp only [go_sem, *]; rfl)); (focus trivial); (focus (repeat (first | assumption | exact Heap.sub_refl _ | refine Heap.sub_congr ?_ | refine Heap.sub_set ?_ (by assumption) | refine Heap.sub_set2 ?_ (by first | assumption | (simp only [*]; done) | (simp only [Heap.set_none', stH_none, ne_eq, *, not_false_eq_true, and_self]; done)))))))
            refine run_drop (H' := stP K l (s.stS t)) (by (repeat (first | assumption | exact Heap.sub_refl _ | refine Heap.sub_congr ?_ | refine Heap.sub_set ?_ (by assumption) | refine Heap.sub_set2 ?_ (by first | assumption | (simp only [*]; done) | (simp only [Heap.set_none', stH_none, ne_eq, *, not_false_eq_true, and_self]; done)))); done) ?_
            refine IHa.out (row.length - (k + 1)) _ _ (by omega) ⟨k + 1, s.stS t, by omega, rfl, ⟨HINV.out.1, HINV.out.2, HK1.out, HK2.out⟩, (by simp only [go_sem, *]), (by simp only [go_sem, *]), (by simp only [go_sem, *]), (by simp only [go_sem, *]), rfl⟩
        · have hk1 : -1 ≤ (s.stS t).h0 := by rw [hA]; exact HH.out.1
          have hk2 : -1 ≤ (s.stS t).h1 := by rw [hB]; exact HH.out.2
          have HK1 : Hid _ := hk1
          have HK2 : Hid _ := hk2
          clear hk1 hk2 HH HLAW
          by_cases he : s.err t = 0
          · obtain ⟨hn4, hn5⟩ : (s.nxt t).kd ≠ 4 ∧ (s.nxt t).kd ≠ 5 := by
              rcases hno with h | h
              · exact absurd he h
              · exact h
            have hE := HE.out
            rw [if_pos he] at hE
            clear HE hno
            rw [hE, he]
            clear hE
            generalize s.nxt t = e at *
            obtain ⟨e1, e2, e3, e4⟩ := e
            simp only at hn4 hn5
            repeat' (first
    | (with_reducible apply run_seq)
    | (with_reducible apply run_block)
    | (with_reducible apply run_inBlock)
    | (with_reducible apply run_skip)
    | (with_reducible apply run_exit rfl)
    | ((with_reducible apply run_go); simp only [go_sem, *])
    | ((with_reducible apply run_drawGo Cl.zero Cl.zero_plain mixed); (focus kernel_rfl); simp only [go_sem, *])
    | ((with_reducible apply run_cond_t); (focus (simp only [go_sem, *]; done)))
    | ((with_reducible apply run_cond_f); (focus (simp only [go_sem, *]; done)))
    | ((with_reducible apply run_cond); (focus (simp only [go_sem, *]; rfl)); (all_goals intro _))
    | ((with_reducible apply runO_box); (focus (simp only [go_sem, *]; done)); intro pb hpb; have hfb := Heap.ne_of_none hpb; (try simp only [Heap.set_none', stH_none] at hpb); (with_reducible apply runO_go); simp only [go_sem, *])
    | ((with_reducible apply runO_alloc); (focus (simp only [go_sem, *]; rfl)); intro pb hpb; have hfb := Heap.ne_of_none hpb; (try simp only [Heap.set_none', stH_none] at hpb); (with_reducible apply runO_go); simp only [go_sem, *])
    | ((with_reducible apply runO_store); (focus (simp only [go_sem]; rfl)); (focus (simp only [go_sem, *]; rfl)); (focus (simp only [go_sem, *]; rfl)); (focus (simp only [go_sem, *]; done)); (focus (simp only [go_sem, *]; done)); (focus (simp only [go_sem, *]; done)); (with_reducible apply runO_go); simp only [go_sem, *, Heap.set_set])
    | ((with_reducible apply runO_skipF); (focus (simp only [go_sem, *]; rfl)); (focus rfl); (with_reducible apply runO_go); simp only [go_sem, *])
    | ((first | (with_reducible apply runA_and) | (with_reducible apply runO_and) | (with_reducible apply runD_and)); (focus (first | assumption | (simp only [go_sem, *]; done) | (simp only [go_sem, *]; assumption))); (try simp only [go_sem, *]))
    | ((with_reducible apply runO_callF known20); simp only [go_sem, *]; refine (q2 _ (hat2.mono (by (repeat (first | assumption | exact Heap.sub_refl _ | refine Heap.sub_congr ?_ | refine Heap.sub_set ?_ (by assumption) | refine Heap.sub_set2 ?_ (by first | assumption | (simp only [*]; done) | (simp only [Heap.set_none', stH_none, ne_eq, *, not_false_eq_true, and_self]; done)))); done))).use ?_; (with_reducible apply runO_go); simp only [go_sem, *])
    | ((with_reducible apply runD_callF known20); (focus rfl); (focus (simp only [go_sem, *]; exact q2 _ (hat2.mono (by (repeat (first | assumption | exact Heap.sub_refl _ | refine Heap.sub_congr ?_ | refine Heap.sub_set ?_ (by assumption) | refine Heap.sub_set2 ?_ (by first | assumption | (simp only [*]; done) | (simp only [Heap.set_none', stH_none, ne_eq, *, not_false_eq_true, and_self]; done)))); done)))); (with_reducible first | apply runD_go Cl.zero_plain | apply runD_goC); simp only [go_sem, *])
              | ((with_reducible apply runO_callF known20); simp only [go_sem, *]; refine (q3 _ (hat2.mono (by (repeat (first | assumption | exact Heap.sub_refl _ | refine Heap.sub_congr ?_ | refine Heap.sub_set ?_ (by assumption) | refine Heap.sub_set2 ?_ (by first | assumption | (simp only [*]; done) | (simp only [Heap.set_none', stH_none, ne_eq, *, not_false_eq_true, and_self]; done)))); done))).use ?_; (with_reducible apply runO_go); simp only [go_sem, *])
    | ((with_reducible apply runD_callF known20); (focus rfl); (focus (simp only [go_sem, *]; exact q3 _ (hat2.mono (by (repeat (first | assumption | exact Heap.sub_refl _ | refine Heap.sub_congr ?_ | refine Heap.sub_set ?_ (by assumption) | refine Heap.sub_set2 ?_ (by first | assumption | (simp only [*]; done) | (simp only [Heap.set_none', stH_none, ne_eq, *, not_false_eq_true, and_self]; done)))); done)))); (with_reducible first | apply runD_go Cl.zero_plain | apply runD_goC); simp only [go_sem, *])
    | ((with_reducible apply run_ret Try.func5 res5 (H' := H)); (focus (simp only [go_sem, *]; rfl)); (focus trivial); (focus (repeat (first | assumption | exact Heap.sub_refl _ | refine Heap.sub_congr ?_ | refine Heap.sub_set ?_ (by assumption) | refine Heap.sub_set2 ?_ (by first | assumption | (simp only [*]; done) | (simp only [Heap.set_none', stH_none, ne_eq, *, not_false_eq_true, and_self]; done)))))))
            refine run_drop (H' := stP K l (s.stS t)) (by (repeat (first | assumption | exact Heap.sub_refl _ | refine Heap.sub_congr ?_ | refine Heap.sub_set ?_ (by assumption) | refine Heap.sub_set2 ?_ (by first | assumption | (simp only [*]; done) | (simp only [Heap.set_none', stH_none, ne_eq, *, not_false_eq_true, and_self]; done)))); done) ?_
            refine IHa.out (row.length - (k + 1)) _ _ (by omega) ⟨k + 1, s.stS t, by omega, rfl, ⟨HINV.out.1, HINV.out.2, HK1.out, HK2.out⟩, (by simp only [go_sem, *]), (by simp only [go_sem, *]), (by simp only [go_sem, *]), (by simp only [go_sem, *]), rfl⟩
          · have hE := HE.out
            rw [if_neg he] at hE
            clear HE hno
            rw [hE]
            clear hE
            unfold ev0
            generalize s.err t = er at *
            repeat' (first
    | (with_reducible apply run_seq)
    | (with_reducible apply run_block)
    | (with_reducible apply run_inBlock)
    | (with_reducible apply run_skip)
    | (with_reducible apply run_exit rfl)
    | ((with_reducible apply run_go); simp only [go_sem, *])
    | ((with_reducible apply run_drawGo Cl.zero Cl.zero_plain mixed); (focus kernel_rfl); simp only [go_sem, *])
    | ((with_reducible apply run_cond_t); (focus (simp only [go_sem, *]; done)))
    | ((with_reducible apply run_cond_f); (focus (simp only [go_sem, *]; done)))
    | ((with_reducible apply run_cond); (focus (simp only [go_sem, *]; rfl)); (all_goals intro _))
    | ((with_reducible apply runO_box); (focus (simp only [go_sem, *]; done)); intro pb hpb; have hfb := Heap.ne_of_none hpb; (try simp only [Heap.set_none', stH_none] at hpb); (with_reducible apply runO_go); simp only [go_sem, *])
    | ((with_reducible apply runO_alloc); (focus (simp only [go_sem, *]; rfl)); intro pb hpb; have hfb := Heap.ne_of_none hpb; (try simp only [Heap.set_none', stH_none] at hpb); (with_reducible apply runO_go); simp only [go_sem, *])
    | ((with_reducible apply runO_store); (focus (simp only [go_sem]; rfl)); (focus (simp only [go_sem, *]; rfl)); (focus (simp only [go_sem, *]; rfl)); (focus (simp only [go_sem, *]; done)); (focus (simp only [go_sem, *]; done)); (focus (simp only [go_sem, *]; done)); (with_reducible apply runO_go); simp only [go_sem, *, Heap.set_set])
    | ((with_reducible apply runO_skipF); (focus (simp only [go_sem, *]; rfl)); (focus rfl); (with_reducible apply runO_go); simp only [go_sem, *])
    | ((first | (with_reducible apply runA_and) | (with_reducible apply runO_and) | (with_reducible apply runD_and)); (focus (first | assumption | (simp only [go_sem, *]; done) | (simp only [go_sem, *]; assumption))); (try simp only [go_sem, *]))
    | ((with_reducible apply runO_callF known20); simp only [go_sem, *]; refine (q2 _ (hat2.mono (by (repeat (first | assumption | exact Heap.sub_refl _ | refine Heap.sub_congr ?_ | refine Heap.sub_set ?_ (by assumption) | refine Heap.sub_set2 ?_ (by first | assumption | (simp only [*]; done) | (simp only [Heap.set_none', stH_none, ne_eq, *, not_false_eq_true, and_self]; done)))); done))).use ?_; (with_reducible apply runO_go); simp only [go_sem, *])
    | ((with_reducible apply runD_callF known20); (focus rfl); (focus (simp only [go_sem, *]; exact q2 _ (hat2.mono (by (repeat (first | assumption | exact Heap.sub_refl _ | refine Heap.sub_congr ?_ | refine Heap.sub_set ?_ (by assumption) | refine Heap.sub_set2 ?_ (by first | assumption | (simp only [*]; done) | (simp only [Heap.set_none', stH_none, ne_eq, *, not_false_eq_true, and_self]; done)))); done)))); (with_reducible first | apply runD_go Cl.zero_plain | apply runD_goC); simp only [go_sem, *])
              | ((with_reducible apply runO_callF known20); simp only [go_sem, *]; refine (q3 _ (hat2.mono (by (repeat (first | assumption | exact Heap.sub_refl _ | refine Heap.sub_congr ?_ | refine Heap.sub_set ?_ (by assumption) | refine Heap.sub_set2 ?_ (by first | assumption | (simp only [*]; done) | (simp only [Heap.set_none', stH_none, ne_eq, *, not_false_eq_true, and_self]; done)))); done))).use ?_; (with_reducible apply runO_go); simp only [go_sem, *])
    | ((with_reducible apply runD_callF known20); (focus rfl); (focus (simp only [go_sem, *]; exact q3 _ (hat2.mono (by (repeat (first | assumption | exact Heap.sub_refl _ | refine Heap.sub_congr ?_ | refine Heap.sub_set ?_ (by assumption) | refine Heap.sub_set2 ?_ (by first | assumption | (simp only [*]; done) | (simp only [Heap.set_none', stH_none, ne_eq, *, not_false_eq_true, and_self]; done)))); done)))); (with_reducible first | apply runD_go Cl.zero_plain | apply runD_goC); simp only [go_sem, *])
    | ((with_reducible apply run_ret Try.func5 res5 (H' := H)); (focus (simp only [go_sem, *]; rfl)); (focus trivial); (focus (repeat (first | assumption | exact Heap.sub_refl _ | refine Heap.sub_congr ?_ | refine Heap.sub_set ?_ (by assumption) | refine Heap.sub_set2 ?_ (by first | assumption | (simp only [*]; done) | (simp only [Heap.set_none', stH_none, ne_eq, *, not_false_eq_true, and_self]; done)))))))
            refine run_drop (H' := stP K l (s.stS t)) (by (repeat (first | assumption | exact Heap.sub_refl _ | refine Heap.sub_congr ?_ | refine Heap.sub_set ?_ (by assumption) | refine Heap.sub_set2 ?_ (by first | assumption | (simp only [*]; done) | (simp only [Heap.set_none', stH_none, ne_eq, *, not_false_eq_true, and_self]; done)))); done) ?_
            refine IHa.out (row.length - (k + 1)) _ _ (by omega) ⟨k + 1, s.stS t, by omega, rfl, ⟨HINV.out.1, HINV.out.2, HK1.out, HK2.out⟩, (by simp only [go_sem, *]), (by simp only [go_sem, *]), (by simp only [go_sem, *]), (by simp only [go_sem, *]), rfl⟩
      · repeat' (first
    | (with_reducible apply run_seq)
    | (with_reducible apply run_block)
    | (with_reducible apply run_inBlock)
    | (with_reducible apply run_skip)
    | (with_reducible apply run_exit rfl)
    | ((with_reducible apply run_go); simp only [go_sem, *])
    | ((with_reducible apply run_drawGo Cl.zero Cl.zero_plain mixed); (focus kernel_rfl); simp only [go_sem, *])
    | ((with_reducible apply run_cond_t); (focus (simp only [go_sem, *]; done)))
    | ((with_reducible apply run_cond_f); (focus (simp only [go_sem, *]; done)))
    | ((with_reducible apply run_cond); (focus (simp only [go_sem, *]; rfl)); (all_goals intro _))
    | ((with_reducible apply runO_box); (focus (simp only [go_sem, *]; done)); intro pb hpb; have hfb := Heap.ne_of_none hpb; (try simp only [Heap.set_none', stH_none] at hpb); (with_reducible apply runO_go); simp only [go_sem, *])
    | ((with_reducible apply runO_alloc); (focus (simp only [go_sem, *]; rfl)); intro pb hpb; have hfb := Heap.ne_of_none hpb; (try simp only [Heap.set_none', stH_none] at hpb); (with_reducible apply runO_go); simp only [go_sem, *])
    | ((with_reducible apply runO_store); (focus (simp only [go_sem]; rfl)); (focus (simp only [go_sem, *]; rfl)); (focus (simp only [go_sem, *]; rfl)); (focus (simp only [go_sem, *]; done)); (focus (simp only [go_sem, *]; done)); (focus (simp only [go_sem, *]; done)); (with_reducible apply runO_go); simp only [go_sem, *, Heap.set_set])
    | ((with_reducible apply runO_skipF); (focus (simp only [go_sem, *]; rfl)); (focus rfl); (with_reducible apply runO_go); simp only [go_sem, *])
    | ((first | (with_reducible apply runA_and) | (with_reducible apply runO_and) | (with_reducible apply runD_and)); (focus (first | assumption | (simp only [go_sem, *]; done) | (simp only [go_sem, *]; assumption))); (try simp only [go_sem, *]))
    | ((with_reducible apply run_ret Try.func5 res5 (H' := stP K l s)); (focus (simp only [go_sem, *]; rfl)); (focus trivial); (focus (repeat (first | assumption | exact Heap.sub_refl _ | refine Heap.sub_congr ?_ | refine Heap.sub_set ?_ (by assumption) | refine Heap.sub_set2 ?_ (by first | assumption | (simp only [*]; done) | (simp only [Heap.set_none', stH_none, ne_eq, *, not_false_eq_true, and_self]; done))))))
    | ((with_reducible apply run_ret Try.func5 res5 (H' := H)); (focus (simp only [go_sem, *]; rfl)); (focus trivial); (focus (repeat (first | assumption | exact Heap.sub_refl _ | refine Heap.sub_congr ?_ | refine Heap.sub_set ?_ (by assumption) | refine Heap.sub_set2 ?_ (by first | assumption | (simp only [*]; done) | (simp only [Heap.set_none', stH_none, ne_eq, *, not_false_eq_true, and_self]; done)))))))
        rfl
    · have hl' : (200 : Int) < (row.length : Int) := by omega
      repeat' (first
    | (with_reducible apply run_seq)
    | (with_reducible apply run_block)
    | (with_reducible apply run_inBlock)
    | (with_reducible apply run_skip)
    | (with_reducible apply run_exit rfl)
    | ((with_reducible apply run_go); simp only [go_sem, *])
    | ((with_reducible apply run_drawGo Cl.zero Cl.zero_plain mixed); (focus kernel_rfl); simp only [go_sem, *])
    | ((with_reducible apply run_cond_t); (focus (simp only [go_sem, *]; done)))
    | ((with_reducible apply run_cond_f); (focus (simp only [go_sem, *]; done)))
    | ((with_reducible apply run_cond); (focus (simp only [go_sem, *]; rfl)); (all_goals intro _))
    | ((with_reducible apply runO_box); (focus (simp only [go_sem, *]; done)); intro pb hpb; have hfb := Heap.ne_of_none hpb; (try simp only [Heap.set_none', stH_none] at hpb); (with_reducible apply runO_go); simp only [go_sem, *])
    | ((with_reducible apply runO_alloc); (focus (simp only [go_sem, *]; rfl)); intro pb hpb; have hfb := Heap.ne_of_none hpb; (try simp only [Heap.set_none', stH_none] at hpb); (with_reducible apply runO_go); simp only [go_sem, *])
    | ((with_reducible apply runO_store); (focus (simp only [go_sem]; rfl)); (focus (simp only [go_sem, *]; rfl)); (focus (simp only [go_sem, *]; rfl)); (focus (simp only [go_sem, *]; done)); (focus (simp only [go_sem, *]; done)); (focus (simp only [go_sem, *]; done)); (with_reducible apply runO_go); simp only [go_sem, *, Heap.set_set])
    | ((with_reducible apply runO_skipF); (focus (simp only [go_sem, *]; rfl)); (focus rfl); (with_reducible apply runO_go); simp only [go_sem, *])
    | ((first | (with_reducible apply runA_and) | (with_reducible apply runO_and) | (with_reducible apply runD_and)); (focus (first | assumption | (simp only [go_sem, *]; done) | (simp only [go_sem, *]; assumption))); (try simp only [go_sem, *]))
    | ((with_reducible apply runO_callF known13); simp only [go_sem, *]; refine (c0 _).use ?_; (with_reducible apply runO_go); simp only [go_sem, *])
        | ((with_reducible apply runO_callFG known14); (focus (simp only [go_sem, *]; rfl)); (focus (intro _; simp only [go_sem, *]; exact c1 _)); (with_reducible apply runO_go); simp only [go_sem, *])
    | ((with_reducible apply run_ret Try.func5 res5 (H' := H)); (focus (simp only [go_sem, *]; rfl)); (focus trivial); (focus (repeat (first | assumption | exact Heap.sub_refl _ | refine Heap.sub_congr ?_ | refine Heap.sub_set ?_ (by assumption) | refine Heap.sub_set2 ?_ (by first | assumption | (simp only [*]; done) | (simp only [Heap.set_none', stH_none, ne_eq, *, not_false_eq_true, and_self]; done)))))))
      rfl
  · rw [Bool.not_eq_true] at hf
    rw [hf] at c1
    by_cases hl : row.length ≤ 200
    · have hl' : ¬ (200 : Int) < (row.length : Int) := by omega
      repeat' (first
    | (with_reducible apply run_seq)
    | (with_reducible apply run_block)
    | (with_reducible apply run_inBlock)
    | (with_reducible apply run_skip)
    | (with_reducible apply run_exit rfl)
    | ((with_reducible apply run_go); simp only [go_sem, *])
    | ((with_reducible apply run_drawGo Cl.zero Cl.zero_plain mixed); (focus kernel_rfl); simp only [go_sem, *])
    | ((with_reducible apply run_cond_t); (focus (simp only [go_sem, *]; done)))
    | ((with_reducible apply run_cond_f); (focus (simp only [go_sem, *]; done)))
    | ((with_reducible apply run_cond); (focus (simp only [go_sem, *]; rfl)); (all_goals intro _))
    | ((with_reducible apply runO_box); (focus (simp only [go_sem, *]; done)); intro pb hpb; have hfb := Heap.ne_of_none hpb; (try simp only [Heap.set_none', stH_none] at hpb); (with_reducible apply runO_go); simp only [go_sem, *])
    | ((with_reducible apply runO_alloc); (focus (simp only [go_sem, *]; rfl)); intro pb hpb; have hfb := Heap.ne_of_none hpb; (try simp only [Heap.set_none', stH_none] at hpb); (with_reducible apply runO_go); simp only [go_sem, *])
    | ((with_reducible apply runO_store); (focus (simp only [go_sem]; rfl)); (focus (simp only [go_sem, *]; rfl)); (focus (simp only [go_sem, *]; rfl)); (focus (simp only [go_sem, *]; done)); (focus (simp only [go_sem, *]; done)); (focus (simp only [go_sem, *]; done)); (with_reducible apply runO_go); simp only [go_sem, *, Heap.set_set])
    | ((with_reducible apply runO_skipF); (focus (simp only [go_sem, *]; rfl)); (focus rfl); (with_reducible apply runO_go); simp only [go_sem, *])
    | ((first | (with_reducible apply runA_and) | (with_reducible apply runO_and) | (with_reducible apply runD_and)); (focus (first | assumption | (simp only [go_sem, *]; done) | (simp only [go_sem, *]; assumption))); (try simp only [go_sem, *]))
    | ((with_reducible apply runO_callF known13); simp only [go_sem, *]; refine (c0 _).use ?_; (with_reducible apply runO_go); simp only [go_sem, *])
        | ((with_reducible apply runO_callFG known14); (focus (simp only [go_sem, *]; rfl)); (focus (intro _; simp only [go_sem, *]; exact c1 _)); (with_reducible apply runO_go); simp only [go_sem, *])
    | ((with_reducible apply run_ret Try.func5 res5 (H' := H)); (focus (simp only [go_sem, *]; rfl)); (focus trivial); (focus (repeat (first | assumption | exact Heap.sub_refl _ | refine Heap.sub_congr ?_ | refine Heap.sub_set ?_ (by assumption) | refine Heap.sub_set2 ?_ (by first | assumption | (simp only [*]; done) | (simp only [Heap.set_none', stH_none, ne_eq, *, not_false_eq_true, and_self]; done)))))))
      rfl
    · have hl' : (200 : Int) < (row.length : Int) := by omega
      repeat' (first
    | (with_reducible apply run_seq)
    | (with_reducible apply run_block)
    | (with_reducible apply run_inBlock)
    | (with_reducible apply run_skip)
    | (with_reducible apply run_exit rfl)
    | ((with_reducible apply run_go); simp only [go_sem, *])
    | ((with_reducible apply run_drawGo Cl.zero Cl.zero_plain mixed); (focus kernel_rfl); simp only [go_sem, *])
    | ((with_reducible apply run_cond_t); (focus (simp only [go_sem, *]; done)))
    | ((with_reducible apply run_cond_f); (focus (simp only [go_sem, *]; done)))
    | ((with_reducible apply run_cond); (focus (simp only [go_sem, *]; rfl)); (all_goals intro _))
    | ((with_reducible apply runO_box); (focus (simp only [go_sem, *]; done)); intro pb hpb; have hfb := Heap.ne_of_none hpb; (try simp only [Heap.set_none', stH_none] at hpb); (with_reducible apply runO_go); simp only [go_sem, *])
    | ((with_reducible apply runO_alloc); (focus (simp only [go_sem, *]; rfl)); intro pb hpb; have hfb := Heap.ne_of_none hpb; (try simp only [Heap.set_none', stH_none] at hpb); (with_reducible apply runO_go); simp only [go_sem, *])
    | ((with_reducible apply runO_store); (focus (simp only [go_sem]; rfl)); (focus (simp only [go_sem, *]; rfl)); (focus (simp only [go_sem, *]; rfl)); (focus (simp only [go_sem, *]; done)); (focus (simp only [go_sem, *]; done)); (focus (simp only [go_sem, *]; done)); (with_reducible apply runO_go); simp only [go_sem, *, Heap.set_set])
    | ((with_reducible apply runO_skipF); (focus (simp only [go_sem, *]; rfl)); (focus rfl); (with_reducible apply runO_go); simp only [go_sem, *])
    | ((first | (with_reducible apply runA_and) | (with_reducible apply runO_and) | (with_reducible apply runD_and)); (focus (first | assumption | (simp only [go_sem, *]; done) | (simp only [go_sem, *]; assumption))); (try simp only [go_sem, *]))
    | ((with_reducible apply runO_callF known13); simp only [go_sem, *]; refine (c0 _).use ?_; (with_reducible apply runO_go); simp only [go_sem, *])
        | ((with_reducible apply runO_callFG known14); (focus (simp only [go_sem, *]; rfl)); (focus (intro _; simp only [go_sem, *]; exact c1 _)); (with_reducible apply runO_go); simp only [go_sem, *])
    | ((with_reducible apply run_ret Try.func5 res5 (H' := H)); (focus (simp only [go_sem, *]; rfl)); (focus trivial); (focus (repeat (first | assumption | exact Heap.sub_refl _ | refine Heap.sub_congr ?_ | refine Heap.sub_set ?_ (by assumption) | refine Heap.sub_set2 ?_ (by first | assumption | (simp only [*]; done) | (simp only [Heap.set_none', stH_none, ne_eq, *, not_false_eq_true, and_self]; done)))))))
      rfl
end Go.Proofs.Ytealonjmkcfneaa
