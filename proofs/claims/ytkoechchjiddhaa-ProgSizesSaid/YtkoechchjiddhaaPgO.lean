/-
  Contracts: the law of programs turned round.
-/
import Derived.Test.YtkoechchjiddhaaPgN
set_option linter.unusedSimpArgs false
set_option linter.unusedVariables false
namespace Go.Proofs.Ytkoechchjiddhaa
open Go Go.Sn Go.RowKit

/-- A list turned from its ends inwards, `k` steps. -/
def swp (l : List (List In)) : Nat → List (List In)
  | 0 => l
  | k + 1 => ((swp l k).set k ((swp l k).getD (l.length - 1 - k) [])).set (l.length - 1 - k) ((swp l k).getD k [])
theorem swp_len (l : List (List In)) : ∀ k, (swp l k).length = l.length
  | 0 => rfl
  | k + 1 => by rw [swp, List.length_set, List.length_set, swp_len l k]
theorem swap_mem {α : Type} [Inhabited α] {l : List α} {d : α} {i j : Nat} (hi : i < l.length) (hj : j < l.length) (x : α) : x ∈ (l.set i (l.getD j d)).set j (l.getD i d) ↔ x ∈ l := by
  have ei : l.getD i d = l[i] := by simp [List.getD_eq_getElem?_getD, List.getElem?_eq_getElem hi]
  have ej : l.getD j d = l[j] := by simp [List.getD_eq_getElem?_getD, List.getElem?_eq_getElem hj]
  rw [ei, ej]
  constructor
  · intro h
    rcases List.mem_or_eq_of_mem_set h with h | h
    · rcases List.mem_or_eq_of_mem_set h with h | h
      · exact h
      · rw [h]; exact List.getElem_mem _
    · rw [h]; exact List.getElem_mem _
  · intro h
    obtain ⟨m, hm, rfl⟩ := List.getElem_of_mem h
    by_cases h1 : m = j
    · subst h1
      by_cases h2 : i = m
      · subst h2
        exact List.mem_iff_getElem.2 ⟨i, by simpa using hm, by simp⟩
      · exact List.mem_iff_getElem.2 ⟨i, by simpa using hi, by rw [List.getElem_set_ne (fun e => h2 e.symm), List.getElem_set_self]⟩
    · by_cases h2 : m = i
      · subst h2
        exact List.mem_iff_getElem.2 ⟨j, by simpa using hj, by rw [List.getElem_set_self]⟩
      · exact List.mem_iff_getElem.2 ⟨m, by simpa using hm, by rw [List.getElem_set_ne (fun e => h1 e.symm), List.getElem_set_ne (fun e => h2 e.symm)]⟩
theorem swp_mem (l : List (List In)) : ∀ k, k ≤ l.length → ∀ x, x ∈ swp l k ↔ x ∈ l
  | 0, _, x => Iff.rfl
  | k + 1, h, x => by
    have hl := swp_len l k
    rw [swp, swap_mem (by omega) (by omega)]
    exact swp_mem l k (by omega) x
theorem all_mem {α : Type} {a b : List α} (p : α → Bool) (h : ∀ x, x ∈ a ↔ x ∈ b) : a.all p = b.all p := by
  rw [Bool.eq_iff_iff, List.all_eq_true, List.all_eq_true]
  exact ⟨fun k x hx => k x ((h x).2 hx), fun k x hx => k x ((h x).1 hx)⟩
theorem swp_right (p : Pg) {k : Nat} (h : k ≤ p.th.length) : rightP ⟨p.vs, p.ms, swp p.th k⟩ = rightP p := by
  unfold rightP
  simp only
  rw [swp_len, all_mem _ (swp_mem p.th k h)]
theorem swp_few {p : Pg} (hf : FewP p) {k : Nat} (h : k ≤ p.th.length) : FewP ⟨p.vs, p.ms, swp p.th k⟩ :=
  ⟨by have := hf.len; simp only [swp_len]; omega, fun c hc => hf.code c ((swp_mem p.th k h c).1 hc)⟩

set_option maxHeartbeats 4000000 in
theorem progTurned_call (W : World) (H : Heap) (p : Pg) (hp : p.th.length ≤ 4000000000000000) :
    CallA Try.prog W 8 [.agg (pgC p)] H fun r H' => r = .v (.bool true) := by
  refine call_in Try.func8 rfl Try.ntmps8 (by simp) ?_
  have c0 := fun H => awake1_call W H
  have c1 := fun H => few_call W H p hp
  by_cases hf : fewP p = true
  · have F := few_of hf
    have c4 := fun H => printP_call W H p (fun c hc => by have := F.code c hc; omega)
    have c5 := fun H => rightP_call W H p (fun c hc => by have := F.code c hc; omega)
    have HF : Hid _ := F
    rw [hf] at c1
    have c3 := fun H => copy_call W H p F
    clear hf F
    repeat' (first
    | (with_reducible apply run_seq)
    | (with_reducible apply run_block)
    | (with_reducible apply run_inBlock)
    | (with_reducible apply run_skip)
    | (with_reducible apply run_exit rfl)
    | ((with_reducible apply run_go); simp only [go_sem, *])
    | ((with_reducible apply run_drawGo Cl.zero Cl.zero_plain mixed); (focus kernel_rfl); simp only [go_sem, *])
    | ((with_reducible apply run_cond_t); (focus (simp only [go_sem, *]; done)))
    | ((with_reducible apply run_cond_f); (focus (simp only [go_sem, *]; done)))
    | ((with_reducible apply run_cond); (focus (simp only [go_sem, *]; rfl)); (all_goals intro _))
    | ((with_reducible apply runO_box); (focus (simp only [go_sem, *]; done)); intro pb hpb; have hfb := Heap.ne_of_none hpb; (try simp only [Heap.set_none'] at hpb); (with_reducible apply runO_go); simp only [go_sem, *])
    | ((with_reducible apply runO_alloc); (focus (simp only [go_sem, *]; rfl)); intro pb hpb; have hfb := Heap.ne_of_none hpb; (try simp only [Heap.set_none'] at hpb); (with_reducible apply runO_go); simp only [go_sem, *])
    | ((with_reducible apply runD_box); (focus (simp only [go_sem, *]; done)); intro pb hpb; have hfb := Heap.ne_of_none hpb; (try simp only [Heap.set_none'] at hpb); (with_reducible first | apply runD_go Cl.zero_plain | apply runD_goC); simp only [go_sem, *])
    | ((with_reducible apply runD_alloc); (focus (simp only [go_sem, *]; rfl)); intro pb hpb; have hfb := Heap.ne_of_none hpb; (try simp only [Heap.set_none'] at hpb); (with_reducible first | apply runD_go Cl.zero_plain | apply runD_goC); simp only [go_sem, *])
    | ((with_reducible apply runO_sliceNil); (focus (simp only [go_sem]; rfl)); (focus (simp only [go_sem, *]; rfl)); intro bn hbn; (with_reducible apply runO_go); simp only [go_sem, *])
    | ((with_reducible apply runO_makeMap); intro pb hpb; have hfb := Heap.ne_of_none hpb; (try simp only [Heap.set_none'] at hpb); (with_reducible apply runO_go); simp only [go_sem, *])
    | ((with_reducible apply runO_store); (focus (simp only [go_sem]; rfl)); (focus (simp only [go_sem, *]; rfl)); (focus (simp only [go_sem, *]; rfl)); (focus (simp only [go_sem, *]; done)); (focus (simp only [go_sem, *]; done)); (focus (simp only [go_sem, *]; done)); (with_reducible apply runO_go); simp only [go_sem, *, Heap.set_set])
    | ((with_reducible apply runD_store); (focus (simp only [go_sem]; rfl)); (focus (simp only [go_sem, *]; rfl)); (focus (simp only [go_sem, *]; rfl)); (focus (simp only [go_sem, *]; done)); (focus (simp only [go_sem, *]; done)); (focus (simp only [go_sem, *]; done)); (focus (first | rfl | (simp only [go_sem, *]; done))); (with_reducible first | apply runD_go Cl.zero_plain | apply runD_goC); simp only [go_sem, *, Heap.set_set])
    | ((with_reducible apply runD_skipF); (focus rfl); (focus (simp only [go_sem, *]; rfl)); (focus rfl); (with_reducible first | apply runD_go Cl.zero_plain | apply runD_goC); simp only [go_sem, *])
    | ((with_reducible apply runO_skipF); (focus (simp only [go_sem, *]; rfl)); (focus rfl); (with_reducible apply runO_go); simp only [go_sem, *])
    | ((first | (with_reducible apply runA_and) | (with_reducible apply runO_and) | (with_reducible apply runD_and)); (focus (first | assumption | (simp only [go_sem, *]; done) | (simp only [go_sem, *]; assumption))); (try simp only [go_sem, *]))
    | ((with_reducible apply runO_callF known9); simp only [go_sem, *]; refine (c0 _).use ?_; (with_reducible apply runO_go); simp only [go_sem, *])
    | ((with_reducible apply runO_callFG known9); (focus (simp only [go_sem, *]; rfl)); (focus (intro _; simp only [go_sem, *]; exact c0 _)); (with_reducible apply runO_go); simp only [go_sem, *])
    | ((with_reducible apply runD_callF known9); (focus (simp only [go_sem, *]; exact c0 _)); (with_reducible first | apply runD_go Cl.zero_plain | apply runD_goC); simp only [go_sem, *])
    | ((with_reducible apply runD_callFG known9); (focus rfl); (focus (simp only [go_sem, *]; rfl)); (focus (intro _; simp only [go_sem, *]; exact c0 _)); (with_reducible first | apply runD_go Cl.zero_plain | apply runD_goC); simp only [go_sem, *])
      | ((with_reducible apply runO_callF known10); simp only [go_sem, *]; refine (c1 _).use ?_; (with_reducible apply runO_go); simp only [go_sem, *])
    | ((with_reducible apply runO_callFG known10); (focus (simp only [go_sem, *]; rfl)); (focus (intro _; simp only [go_sem, *]; exact c1 _)); (with_reducible apply runO_go); simp only [go_sem, *])
    | ((with_reducible apply runD_callF known10); (focus (simp only [go_sem, *]; exact c1 _)); (with_reducible first | apply runD_go Cl.zero_plain | apply runD_goC); simp only [go_sem, *])
    | ((with_reducible apply runD_callFG known10); (focus rfl); (focus (simp only [go_sem, *]; rfl)); (focus (intro _; simp only [go_sem, *]; exact c1 _)); (with_reducible first | apply runD_go Cl.zero_plain | apply runD_goC); simp only [go_sem, *])
    | ((with_reducible apply run_ret Try.func8 res8 (H' := H)); (focus (simp only [go_sem, *]; rfl)); (focus trivial); (focus (repeat (first | assumption | exact Heap.sub_refl _ | refine Heap.sub_congr ?_ | refine Heap.sub_set ?_ (by assumption) | refine Heap.sub_set2 ?_ (by first | assumption | (simp only [*]; done) | (simp only [Heap.set_none', ne_eq, *, not_false_eq_true, and_self]; done))))))
    | ((with_reducible apply run_end Try.func8 res8 (H' := H)); (focus (simp only [go_sem, *]; rfl)); (focus trivial); (focus (repeat (first | assumption | exact Heap.sub_refl _ | refine Heap.sub_congr ?_ | refine Heap.sub_set ?_ (by assumption) | refine Heap.sub_set2 ?_ (by first | assumption | (simp only [*]; done) | (simp only [Heap.set_none', ne_eq, *, not_false_eq_true, and_self]; done)))))))
    clear c0 c1
    generalize pb = p1 at *
    have hp1 := hpb
    have hf1 := hfb
    clear hpb hfb
    (with_reducible apply runO_callF known14); simp only [go_sem, *]
    refine (c3 _).mono (fun d1 H1 hcl => ?_)
    clear c3
    rcases hcl with ⟨h0, rfl, rfl⟩ | ⟨h0, b, c, rest, hb, hcap, hrl, rfl, rfl⟩
    · (with_reducible apply runO_go); simp only [go_sem, *]
      have hz : p.th.length = 0 := by rw [h0]; rfl
      repeat' (first
    | (with_reducible apply run_seq)
    | (with_reducible apply run_block)
    | (with_reducible apply run_inBlock)
    | (with_reducible apply run_skip)
    | (with_reducible apply run_exit rfl)
    | ((with_reducible apply run_go); simp only [go_sem, *])
    | ((with_reducible apply run_drawGo Cl.zero Cl.zero_plain mixed); (focus kernel_rfl); simp only [go_sem, *])
    | ((with_reducible apply run_cond_t); (focus (simp only [go_sem, *]; done)))
    | ((with_reducible apply run_cond_f); (focus (simp only [go_sem, *]; done)))
    | ((with_reducible apply run_cond); (focus (simp only [go_sem, *]; rfl)); (all_goals intro _))
    | ((with_reducible apply runO_box); (focus (simp only [go_sem, *]; done)); intro pb hpb; have hfb := Heap.ne_of_none hpb; (try simp only [Heap.set_none'] at hpb); (with_reducible apply runO_go); simp only [go_sem, *])
    | ((with_reducible apply runO_alloc); (focus (simp only [go_sem, *]; rfl)); intro pb hpb; have hfb := Heap.ne_of_none hpb; (try simp only [Heap.set_none'] at hpb); (with_reducible apply runO_go); simp only [go_sem, *])
    | ((with_reducible apply runD_box); (focus (simp only [go_sem, *]; done)); intro pb hpb; have hfb := Heap.ne_of_none hpb; (try simp only [Heap.set_none'] at hpb); (with_reducible first | apply runD_go Cl.zero_plain | apply runD_goC); simp only [go_sem, *])
    | ((with_reducible apply runD_alloc); (focus (simp only [go_sem, *]; rfl)); intro pb hpb; have hfb := Heap.ne_of_none hpb; (try simp only [Heap.set_none'] at hpb); (with_reducible first | apply runD_go Cl.zero_plain | apply runD_goC); simp only [go_sem, *])
    | ((with_reducible apply runO_sliceNil); (focus (simp only [go_sem]; rfl)); (focus (simp only [go_sem, *]; rfl)); intro bn hbn; (with_reducible apply runO_go); simp only [go_sem, *])
    | ((with_reducible apply runO_makeMap); intro pb hpb; have hfb := Heap.ne_of_none hpb; (try simp only [Heap.set_none'] at hpb); (with_reducible apply runO_go); simp only [go_sem, *])
    | ((with_reducible apply runO_store); (focus (simp only [go_sem]; rfl)); (focus (simp only [go_sem, *]; rfl)); (focus (simp only [go_sem, *]; rfl)); (focus (simp only [go_sem, *]; done)); (focus (simp only [go_sem, *]; done)); (focus (simp only [go_sem, *]; done)); (with_reducible apply runO_go); simp only [go_sem, *, Heap.set_set])
    | ((with_reducible apply runD_store); (focus (simp only [go_sem]; rfl)); (focus (simp only [go_sem, *]; rfl)); (focus (simp only [go_sem, *]; rfl)); (focus (simp only [go_sem, *]; done)); (focus (simp only [go_sem, *]; done)); (focus (simp only [go_sem, *]; done)); (focus (first | rfl | (simp only [go_sem, *]; done))); (with_reducible first | apply runD_go Cl.zero_plain | apply runD_goC); simp only [go_sem, *, Heap.set_set])
    | ((with_reducible apply runD_skipF); (focus rfl); (focus (simp only [go_sem, *]; rfl)); (focus rfl); (with_reducible first | apply runD_go Cl.zero_plain | apply runD_goC); simp only [go_sem, *])
    | ((with_reducible apply runO_skipF); (focus (simp only [go_sem, *]; rfl)); (focus rfl); (with_reducible apply runO_go); simp only [go_sem, *])
    | ((first | (with_reducible apply runA_and) | (with_reducible apply runO_and) | (with_reducible apply runD_and)); (focus (first | assumption | (simp only [go_sem, *]; done) | (simp only [go_sem, *]; assumption))); (try simp only [go_sem, *]))
    | ((with_reducible apply run_ret Try.func8 res8 (H' := H)); (focus (simp only [go_sem, *]; rfl)); (focus trivial); (focus (repeat (first | assumption | exact Heap.sub_refl _ | refine Heap.sub_congr ?_ | refine Heap.sub_set ?_ (by assumption) | refine Heap.sub_set2 ?_ (by first | assumption | (simp only [*]; done) | (simp only [Heap.set_none', ne_eq, *, not_false_eq_true, and_self]; done))))))
    | ((with_reducible apply run_end Try.func8 res8 (H' := H)); (focus (simp only [go_sem, *]; rfl)); (focus trivial); (focus (repeat (first | assumption | exact Heap.sub_refl _ | refine Heap.sub_congr ?_ | refine Heap.sub_set ?_ (by assumption) | refine Heap.sub_set2 ?_ (by first | assumption | (simp only [*]; done) | (simp only [Heap.set_none', ne_eq, *, not_false_eq_true, and_self]; done)))))))
      refine run_loop1 ?_
      repeat' (first
    | (with_reducible apply run_seq)
    | (with_reducible apply run_block)
    | (with_reducible apply run_inBlock)
    | (with_reducible apply run_skip)
    | (with_reducible apply run_exit rfl)
    | ((with_reducible apply run_go); simp only [go_sem, *])
    | ((with_reducible apply run_drawGo Cl.zero Cl.zero_plain mixed); (focus kernel_rfl); simp only [go_sem, *])
    | ((with_reducible apply run_cond_t); (focus (simp only [go_sem, *]; done)))
    | ((with_reducible apply run_cond_f); (focus (simp only [go_sem, *]; done)))
    | ((with_reducible apply run_cond); (focus (simp only [go_sem, *]; rfl)); (all_goals intro _))
    | ((with_reducible apply runO_box); (focus (simp only [go_sem, *]; done)); intro pb hpb; have hfb := Heap.ne_of_none hpb; (try simp only [Heap.set_none'] at hpb); (with_reducible apply runO_go); simp only [go_sem, *])
    | ((with_reducible apply runO_alloc); (focus (simp only [go_sem, *]; rfl)); intro pb hpb; have hfb := Heap.ne_of_none hpb; (try simp only [Heap.set_none'] at hpb); (with_reducible apply runO_go); simp only [go_sem, *])
    | ((with_reducible apply runD_box); (focus (simp only [go_sem, *]; done)); intro pb hpb; have hfb := Heap.ne_of_none hpb; (try simp only [Heap.set_none'] at hpb); (with_reducible first | apply runD_go Cl.zero_plain | apply runD_goC); simp only [go_sem, *])
    | ((with_reducible apply runD_alloc); (focus (simp only [go_sem, *]; rfl)); intro pb hpb; have hfb := Heap.ne_of_none hpb; (try simp only [Heap.set_none'] at hpb); (with_reducible first | apply runD_go Cl.zero_plain | apply runD_goC); simp only [go_sem, *])
    | ((with_reducible apply runO_sliceNil); (focus (simp only [go_sem]; rfl)); (focus (simp only [go_sem, *]; rfl)); intro bn hbn; (with_reducible apply runO_go); simp only [go_sem, *])
    | ((with_reducible apply runO_makeMap); intro pb hpb; have hfb := Heap.ne_of_none hpb; (try simp only [Heap.set_none'] at hpb); (with_reducible apply runO_go); simp only [go_sem, *])
    | ((with_reducible apply runO_store); (focus (simp only [go_sem]; rfl)); (focus (simp only [go_sem, *]; rfl)); (focus (simp only [go_sem, *]; rfl)); (focus (simp only [go_sem, *]; done)); (focus (simp only [go_sem, *]; done)); (focus (simp only [go_sem, *]; done)); (with_reducible apply runO_go); simp only [go_sem, *, Heap.set_set])
    | ((with_reducible apply runD_store); (focus (simp only [go_sem]; rfl)); (focus (simp only [go_sem, *]; rfl)); (focus (simp only [go_sem, *]; rfl)); (focus (simp only [go_sem, *]; done)); (focus (simp only [go_sem, *]; done)); (focus (simp only [go_sem, *]; done)); (focus (first | rfl | (simp only [go_sem, *]; done))); (with_reducible first | apply runD_go Cl.zero_plain | apply runD_goC); simp only [go_sem, *, Heap.set_set])
    | ((with_reducible apply runD_skipF); (focus rfl); (focus (simp only [go_sem, *]; rfl)); (focus rfl); (with_reducible first | apply runD_go Cl.zero_plain | apply runD_goC); simp only [go_sem, *])
    | ((with_reducible apply runO_skipF); (focus (simp only [go_sem, *]; rfl)); (focus rfl); (with_reducible apply runO_go); simp only [go_sem, *])
    | ((first | (with_reducible apply runA_and) | (with_reducible apply runO_and) | (with_reducible apply runD_and)); (focus (first | assumption | (simp only [go_sem, *]; done) | (simp only [go_sem, *]; assumption))); (try simp only [go_sem, *]))
    | ((with_reducible apply runO_callF known11); simp only [go_sem, *]; refine (c4 _).use ?_; (with_reducible apply runO_go); simp only [go_sem, *])
    | ((with_reducible apply runO_callFG known11); (focus (simp only [go_sem, *]; rfl)); (focus (intro _; simp only [go_sem, *]; exact c4 _)); (with_reducible apply runO_go); simp only [go_sem, *])
    | ((with_reducible apply runD_callF known11); (focus (simp only [go_sem, *]; exact c4 _)); (with_reducible first | apply runD_go Cl.zero_plain | apply runD_goC); simp only [go_sem, *])
    | ((with_reducible apply runD_callFG known11); (focus rfl); (focus (simp only [go_sem, *]; rfl)); (focus (intro _; simp only [go_sem, *]; exact c4 _)); (with_reducible first | apply runD_go Cl.zero_plain | apply runD_goC); simp only [go_sem, *])
        | ((with_reducible apply runO_callF known13); simp only [go_sem, *]; refine (c5 _).use ?_; (with_reducible apply runO_go); simp only [go_sem, *])
    | ((with_reducible apply runO_callFG known13); (focus (simp only [go_sem, *]; rfl)); (focus (intro _; simp only [go_sem, *]; exact c5 _)); (with_reducible apply runO_go); simp only [go_sem, *])
    | ((with_reducible apply runD_callF known13); (focus (simp only [go_sem, *]; exact c5 _)); (with_reducible first | apply runD_go Cl.zero_plain | apply runD_goC); simp only [go_sem, *])
    | ((with_reducible apply runD_callFG known13); (focus rfl); (focus (simp only [go_sem, *]; rfl)); (focus (intro _; simp only [go_sem, *]; exact c5 _)); (with_reducible first | apply runD_go Cl.zero_plain | apply runD_goC); simp only [go_sem, *])
    | ((with_reducible apply run_ret Try.func8 res8 (H' := H)); (focus (simp only [go_sem, *]; rfl)); (focus trivial); (focus (repeat (first | assumption | exact Heap.sub_refl _ | refine Heap.sub_congr ?_ | refine Heap.sub_set ?_ (by assumption) | refine Heap.sub_set2 ?_ (by first | assumption | (simp only [*]; done) | (simp only [Heap.set_none', ne_eq, *, not_false_eq_true, and_self]; done))))))
    | ((with_reducible apply run_end Try.func8 res8 (H' := H)); (focus (simp only [go_sem, *]; rfl)); (focus trivial); (focus (repeat (first | assumption | exact Heap.sub_refl _ | refine Heap.sub_congr ?_ | refine Heap.sub_set ?_ (by assumption) | refine Heap.sub_set2 ?_ (by first | assumption | (simp only [*]; done) | (simp only [Heap.set_none', ne_eq, *, not_false_eq_true, and_self]; done)))))))
      rfl
    · clear hrl
      have hfc := Heap.ne_of_none hb
      (with_reducible apply runO_go); simp only [go_sem, *]
      have hn1 : 1 ≤ p.th.length := by rcases Nat.eq_zero_or_pos p.th.length with h | h; exact absurd (List.eq_nil_of_length_eq_zero h) h0; exact h
      have hn20 : p.th.length ≤ 20 := HF.out.len
      have hw0 : IntKind.i64.wrap ((p.th.length : Int) - 1) = ((p.th.length - 1 : Nat) : Int) := by rw [wrapP (by omega) (by omega)]; omega
      repeat' (first
    | (with_reducible apply run_seq)
    | (with_reducible apply run_block)
    | (with_reducible apply run_inBlock)
    | (with_reducible apply run_skip)
    | (with_reducible apply run_exit rfl)
    | ((with_reducible apply run_go); simp only [go_sem, *])
    | ((with_reducible apply run_drawGo Cl.zero Cl.zero_plain mixed); (focus kernel_rfl); simp only [go_sem, *])
    | ((with_reducible apply run_cond_t); (focus (simp only [go_sem, *]; done)))
    | ((with_reducible apply run_cond_f); (focus (simp only [go_sem, *]; done)))
    | ((with_reducible apply run_cond); (focus (simp only [go_sem, *]; rfl)); (all_goals intro _))
    | ((with_reducible apply runO_box); (focus (simp only [go_sem, *]; done)); intro pb hpb; have hfb := Heap.ne_of_none hpb; (try simp only [Heap.set_none'] at hpb); (with_reducible apply runO_go); simp only [go_sem, *])
    | ((with_reducible apply runO_alloc); (focus (simp only [go_sem, *]; rfl)); intro pb hpb; have hfb := Heap.ne_of_none hpb; (try simp only [Heap.set_none'] at hpb); (with_reducible apply runO_go); simp only [go_sem, *])
    | ((with_reducible apply runD_box); (focus (simp only [go_sem, *]; done)); intro pb hpb; have hfb := Heap.ne_of_none hpb; (try simp only [Heap.set_none'] at hpb); (with_reducible first | apply runD_go Cl.zero_plain | apply runD_goC); simp only [go_sem, *])
    | ((with_reducible apply runD_alloc); (focus (simp only [go_sem, *]; rfl)); intro pb hpb; have hfb := Heap.ne_of_none hpb; (try simp only [Heap.set_none'] at hpb); (with_reducible first | apply runD_go Cl.zero_plain | apply runD_goC); simp only [go_sem, *])
    | ((with_reducible apply runO_sliceNil); (focus (simp only [go_sem]; rfl)); (focus (simp only [go_sem, *]; rfl)); intro bn hbn; (with_reducible apply runO_go); simp only [go_sem, *])
    | ((with_reducible apply runO_makeMap); intro pb hpb; have hfb := Heap.ne_of_none hpb; (try simp only [Heap.set_none'] at hpb); (with_reducible apply runO_go); simp only [go_sem, *])
    | ((with_reducible apply runO_store); (focus (simp only [go_sem]; rfl)); (focus (simp only [go_sem, *]; rfl)); (focus (simp only [go_sem, *]; rfl)); (focus (simp only [go_sem, *]; done)); (focus (simp only [go_sem, *]; done)); (focus (simp only [go_sem, *]; done)); (with_reducible apply runO_go); simp only [go_sem, *, Heap.set_set])
    | ((with_reducible apply runD_store); (focus (simp only [go_sem]; rfl)); (focus (simp only [go_sem, *]; rfl)); (focus (simp only [go_sem, *]; rfl)); (focus (simp only [go_sem, *]; done)); (focus (simp only [go_sem, *]; done)); (focus (simp only [go_sem, *]; done)); (focus (first | rfl | (simp only [go_sem, *]; done))); (with_reducible first | apply runD_go Cl.zero_plain | apply runD_goC); simp only [go_sem, *, Heap.set_set])
    | ((with_reducible apply runD_skipF); (focus rfl); (focus (simp only [go_sem, *]; rfl)); (focus rfl); (with_reducible first | apply runD_go Cl.zero_plain | apply runD_goC); simp only [go_sem, *])
    | ((with_reducible apply runO_skipF); (focus (simp only [go_sem, *]; rfl)); (focus rfl); (with_reducible apply runO_go); simp only [go_sem, *])
    | ((first | (with_reducible apply runA_and) | (with_reducible apply runO_and) | (with_reducible apply runD_and)); (focus (first | assumption | (simp only [go_sem, *]; done) | (simp only [go_sem, *]; assumption))); (try simp only [go_sem, *]))
    | ((with_reducible apply run_ret Try.func8 res8 (H' := H)); (focus (simp only [go_sem, *]; rfl)); (focus trivial); (focus (repeat (first | assumption | exact Heap.sub_refl _ | refine Heap.sub_congr ?_ | refine Heap.sub_set ?_ (by assumption) | refine Heap.sub_set2 ?_ (by first | assumption | (simp only [*]; done) | (simp only [Heap.set_none', ne_eq, *, not_false_eq_true, and_self]; done))))))
    | ((with_reducible apply run_end Try.func8 res8 (H' := H)); (focus (simp only [go_sem, *]; rfl)); (focus trivial); (focus (repeat (first | assumption | exact Heap.sub_refl _ | refine Heap.sub_congr ?_ | refine Heap.sub_set ?_ (by assumption) | refine Heap.sub_set2 ?_ (by first | assumption | (simp only [*]; done) | (simp only [Heap.set_none', ne_eq, *, not_false_eq_true, and_self]; done)))))))
      generalize pb = p2 at *
      simp only [Heap.set_none'] at hb
      obtain ⟨⟨hb1, hb1'⟩, hbH⟩ := hb
      obtain ⟨⟨hpb, hpb'⟩, ⟨hp12, hp12'⟩, hp2⟩ := hpb
      clear hf1 hfc hfb
      generalize hn : p.th.length = n at *
      refine run_loop (fun na ea Ha => ∃ (k : Nat), k ≤ n ∧ na = n - k ∧ ea 1 = .v (.pointer (some ⟨p1, 0, none⟩)) ∧ ea 3 = .v (.pointer (some ⟨p2, 0, none⟩)) ∧ ea 4 = .v (.int .i64 (k : Int)) ∧ ea 5 = .v (.int .i64 ((n - 1 - k : Nat) : Int)) ∧ ((H.set p1 (.cells (pgC p) 24)).set b (.cells ((thsC (swp p.th k)).flatten ++ rest) 32)).set p2 (.cells [.v (.int .i64 p.vs), .v (.int .i64 p.ms), .v (.slice (some ⟨b, 0, none⟩) n c)] 24) = Ha) (n)
          ⟨0, Nat.zero_le _, rfl, (by simp only [go_sem, *]), (by simp only [go_sem, *]), (by simp only [go_sem] <;> rfl), (by simp only [go_sem] <;> rfl), rfl⟩ ?_
      rintro na ea Ha ih ⟨k, ak, rfl, as1, as3, as4, as5, rfl⟩
      have IHa : Hid _ := ih
      clear ih
      have hL := swp_len p.th k
      rw [hn] at hL
      by_cases hlt : k < n - 1 - k
      · have hw := wrap_succ (k := k) (by omega)
        have hwm : IntKind.i64.wrap (((n - 1 - k : Nat) : Int) - 1) = ((n - 1 - (k + 1) : Nat) : Int) := by rw [wrapP (by omega) (by omega)]; omega
        have hsw : swp p.th (k + 1) = ((swp p.th k).set k ((swp p.th k).getD (n - 1 - k) [])).set (n - 1 - k) ((swp p.th k).getD k []) := by rw [← hn]; rfl
        have HS : Hid _ := hsw
        clear hsw
        have hlt' : (k : Int) < ((n - 1 - k : Nat) : Int) := by omega
        have hmn : n - 1 - k < n := by omega
        have hkn : k < n := by omega
        generalize n - 1 - k = m at *
        generalize swp p.th k = L at *
        have g1 := ths_get L rest (k := m) (by omega)
        have g2 := ths_get L rest (k := k) (by omega)
        have g3 := ths_put L rest (k := k) (by omega) (L.getD m [])
        have g4 := ths_len L rest
        have g5 := ths_len (L.set k (L.getD m [])) rest
        rw [List.length_set] at g5
        have g6 := ths_put (L.set k (L.getD m [])) rest (k := m) (by rw [List.length_set]; omega) (L.getD k [])
        rw [hL] at g4 g5
        have x1 : k < n + rest.length := by omega
        have x2 : m < n + rest.length := by omega
        have x3 : k + 1 ≤ n + rest.length := by omega
        have x4 : m + 1 ≤ n + rest.length := by omega
        generalize hL1 : L.set k (L.getD m []) = L1 at *
        repeat' (first
    | ((with_reducible apply run_drawGoC (Cl.ty 22 p2) mixed); (focus kernel_rfl); simp only [go_sem, *])
    | (with_reducible apply run_seq)
    | (with_reducible apply run_block)
    | (with_reducible apply run_inBlock)
    | (with_reducible apply run_skip)
    | (with_reducible apply run_exit rfl)
    | ((with_reducible apply run_go); simp only [go_sem, *])
    | ((with_reducible apply run_drawGo Cl.zero Cl.zero_plain mixed); (focus kernel_rfl); simp only [go_sem, *])
    | ((with_reducible apply run_cond_t); (focus (simp only [go_sem, *]; done)))
    | ((with_reducible apply run_cond_f); (focus (simp only [go_sem, *]; done)))
    | ((with_reducible apply run_cond); (focus (simp only [go_sem, *]; rfl)); (all_goals intro _))
    | ((with_reducible apply runO_box); (focus (simp only [go_sem, *]; done)); intro pb hpb; have hfb := Heap.ne_of_none hpb; (try simp only [Heap.set_none'] at hpb); (with_reducible apply runO_go); simp only [go_sem, *])
    | ((with_reducible apply runO_alloc); (focus (simp only [go_sem, *]; rfl)); intro pb hpb; have hfb := Heap.ne_of_none hpb; (try simp only [Heap.set_none'] at hpb); (with_reducible apply runO_go); simp only [go_sem, *])
    | ((with_reducible apply runD_box); (focus (simp only [go_sem, *]; done)); intro pb hpb; have hfb := Heap.ne_of_none hpb; (try simp only [Heap.set_none'] at hpb); (with_reducible first | apply runD_go Cl.zero_plain | apply runD_goC); simp only [go_sem, *])
    | ((with_reducible apply runD_alloc); (focus (simp only [go_sem, *]; rfl)); intro pb hpb; have hfb := Heap.ne_of_none hpb; (try simp only [Heap.set_none'] at hpb); (with_reducible first | apply runD_go Cl.zero_plain | apply runD_goC); simp only [go_sem, *])
    | ((with_reducible apply runO_sliceNil); (focus (simp only [go_sem]; rfl)); (focus (simp only [go_sem, *]; rfl)); intro bn hbn; (with_reducible apply runO_go); simp only [go_sem, *])
    | ((with_reducible apply runO_makeMap); intro pb hpb; have hfb := Heap.ne_of_none hpb; (try simp only [Heap.set_none'] at hpb); (with_reducible apply runO_go); simp only [go_sem, *])
    | ((with_reducible apply runO_store); (focus (simp only [go_sem]; rfl)); (focus (simp only [go_sem, *]; rfl)); (focus (simp only [go_sem, *]; rfl)); (focus (simp only [go_sem, *]; done)); (focus (simp only [go_sem, *]; done)); (focus (simp only [go_sem, *]; done)); (with_reducible apply runO_go); simp only [go_sem, *, Heap.set_set])
    | ((with_reducible apply runD_store); (focus (simp only [go_sem]; rfl)); (focus (simp only [go_sem, *]; rfl)); (focus (simp only [go_sem, *]; rfl)); (focus (simp only [go_sem, *]; done)); (focus (simp only [go_sem, *]; done)); (focus (simp only [go_sem, *]; done)); (focus (first | rfl | (simp only [go_sem, *]; done))); (with_reducible first | apply runD_go Cl.zero_plain | apply runD_goC); simp only [go_sem, *, Heap.set_set])
    | ((with_reducible apply runD_skipF); (focus rfl); (focus (simp only [go_sem, *]; rfl)); (focus rfl); (with_reducible first | apply runD_go Cl.zero_plain | apply runD_goC); simp only [go_sem, *])
    | ((with_reducible apply runO_skipF); (focus (simp only [go_sem, *]; rfl)); (focus rfl); (with_reducible apply runO_go); simp only [go_sem, *])
    | ((first | (with_reducible apply runA_and) | (with_reducible apply runO_and) | (with_reducible apply runD_and)); (focus (first | assumption | (simp only [go_sem, *]; done) | (simp only [go_sem, *]; assumption))); (try simp only [go_sem, *]))
    | ((with_reducible apply run_drawGoC (Cl.ty 22 p2) mixed); (focus kernel_rfl); simp only [go_sem, *])
    | ((with_reducible apply run_ret Try.func8 res8 (H' := H)); (focus (simp only [go_sem, *]; rfl)); (focus trivial); (focus (repeat (first | assumption | exact Heap.sub_refl _ | refine Heap.sub_congr ?_ | refine Heap.sub_set ?_ (by assumption) | refine Heap.sub_set2 ?_ (by first | assumption | (simp only [*]; done) | (simp only [Heap.set_none', ne_eq, *, not_false_eq_true, and_self]; done))))))
    | ((with_reducible apply run_end Try.func8 res8 (H' := H)); (focus (simp only [go_sem, *]; rfl)); (focus trivial); (focus (repeat (first | assumption | exact Heap.sub_refl _ | refine Heap.sub_congr ?_ | refine Heap.sub_set ?_ (by assumption) | refine Heap.sub_set2 ?_ (by first | assumption | (simp only [*]; done) | (simp only [Heap.set_none', ne_eq, *, not_false_eq_true, and_self]; done)))))))
        refine IHa.out (n - (k + 1)) _ _ (by omega) ⟨k + 1, by omega, rfl, (by simp only [go_sem, *]), (by simp only [go_sem, *]), (by simp only [go_sem, *]), (by simp only [go_sem, *]), ?_⟩
        rw [HS.out]
        funext q
        simp only [Heap.set_at]
        clear IHa HF c4 c5 g1 g2 g3 g6
        grind
      · have hge : ¬ (k : Int) < ((n - 1 - k : Nat) : Int) := by omega
        have F' := swp_few HF.out (k := k) (by omega)
        have hR := swp_right p (k := k) (by omega)
        have c6 := fun H => printP_call W H ⟨p.vs, p.ms, swp p.th k⟩ (fun c hc => by have := F'.code c hc; omega)
        have c7 := fun H => rightP_call W H ⟨p.vs, p.ms, swp p.th k⟩ (fun c hc => by have := F'.code c hc; omega)
        rw [hR] at c6 c7
        simp only [pgC] at c6 c7
        clear hR F' IHa
        generalize n - 1 - k = m at *
        generalize swp p.th k = L at *
        refine run_freezeIn (H := ((H.set p1 (.cells (pgC p) 24)).set b (.cells ((thsC L).flatten ++ rest) 32)).set p2 (.cells [.v (.int .i64 p.vs), .v (.int .i64 p.ms), .v (.slice (some ⟨b, 0, none⟩) n c)] 24)) (p := p2) (b := b) (n := n) (c := c) (sz := 1) (rest := rest) (xs := thsC L) (show _ = some (.cells ([D.v (.int .i64 p.vs), D.v (.int .i64 p.ms)] ++ D.v (.slice (some ⟨b, 0, none⟩) n c) :: []) 24) from Heap.set_same _ _ _) (by rw [Heap.set_other _ _ hpb', Heap.set_same]) hpb (by rw [thsC_length]; exact hL) hcap (thsC_all L) ?_
        refine run_drop (H' := (H.set p1 (.cells (pgC p) 24)).set p2 (.cells [.v (.int .i64 p.vs), .v (.int .i64 p.ms), .list (thsC L)] 24)) (fun q r hq => ?_) ?_
        · simp only [Heap.set_at, Heap.del_at] at hq ⊢
          clear HF c4 c5 c6 c7
          grind
        repeat' (first
    | (with_reducible apply run_seq)
    | (with_reducible apply run_block)
    | (with_reducible apply run_inBlock)
    | (with_reducible apply run_skip)
    | (with_reducible apply run_exit rfl)
    | ((with_reducible apply run_go); simp only [go_sem, *])
    | ((with_reducible apply run_drawGo Cl.zero Cl.zero_plain mixed); (focus kernel_rfl); simp only [go_sem, *])
    | ((with_reducible apply run_cond_t); (focus (simp only [go_sem, *]; done)))
    | ((with_reducible apply run_cond_f); (focus (simp only [go_sem, *]; done)))
    | ((with_reducible apply run_cond); (focus (simp only [go_sem, *]; rfl)); (all_goals intro _))
    | ((with_reducible apply runO_box); (focus (simp only [go_sem, *]; done)); intro pb hpb; have hfb := Heap.ne_of_none hpb; (try simp only [Heap.set_none'] at hpb); (with_reducible apply runO_go); simp only [go_sem, *])
    | ((with_reducible apply runO_alloc); (focus (simp only [go_sem, *]; rfl)); intro pb hpb; have hfb := Heap.ne_of_none hpb; (try simp only [Heap.set_none'] at hpb); (with_reducible apply runO_go); simp only [go_sem, *])
    | ((with_reducible apply runD_box); (focus (simp only [go_sem, *]; done)); intro pb hpb; have hfb := Heap.ne_of_none hpb; (try simp only [Heap.set_none'] at hpb); (with_reducible first | apply runD_go Cl.zero_plain | apply runD_goC); simp only [go_sem, *])
    | ((with_reducible apply runD_alloc); (focus (simp only [go_sem, *]; rfl)); intro pb hpb; have hfb := Heap.ne_of_none hpb; (try simp only [Heap.set_none'] at hpb); (with_reducible first | apply runD_go Cl.zero_plain | apply runD_goC); simp only [go_sem, *])
    | ((with_reducible apply runO_sliceNil); (focus (simp only [go_sem]; rfl)); (focus (simp only [go_sem, *]; rfl)); intro bn hbn; (with_reducible apply runO_go); simp only [go_sem, *])
    | ((with_reducible apply runO_makeMap); intro pb hpb; have hfb := Heap.ne_of_none hpb; (try simp only [Heap.set_none'] at hpb); (with_reducible apply runO_go); simp only [go_sem, *])
    | ((with_reducible apply runO_store); (focus (simp only [go_sem]; rfl)); (focus (simp only [go_sem, *]; rfl)); (focus (simp only [go_sem, *]; rfl)); (focus (simp only [go_sem, *]; done)); (focus (simp only [go_sem, *]; done)); (focus (simp only [go_sem, *]; done)); (with_reducible apply runO_go); simp only [go_sem, *, Heap.set_set])
    | ((with_reducible apply runD_store); (focus (simp only [go_sem]; rfl)); (focus (simp only [go_sem, *]; rfl)); (focus (simp only [go_sem, *]; rfl)); (focus (simp only [go_sem, *]; done)); (focus (simp only [go_sem, *]; done)); (focus (simp only [go_sem, *]; done)); (focus (first | rfl | (simp only [go_sem, *]; done))); (with_reducible first | apply runD_go Cl.zero_plain | apply runD_goC); simp only [go_sem, *, Heap.set_set])
    | ((with_reducible apply runD_skipF); (focus rfl); (focus (simp only [go_sem, *]; rfl)); (focus rfl); (with_reducible first | apply runD_go Cl.zero_plain | apply runD_goC); simp only [go_sem, *])
    | ((with_reducible apply runO_skipF); (focus (simp only [go_sem, *]; rfl)); (focus rfl); (with_reducible apply runO_go); simp only [go_sem, *])
    | ((first | (with_reducible apply runA_and) | (with_reducible apply runO_and) | (with_reducible apply runD_and)); (focus (first | assumption | (simp only [go_sem, *]; done) | (simp only [go_sem, *]; assumption))); (try simp only [go_sem, *]))
    | ((with_reducible apply runO_callF known11); simp only [go_sem, *]; refine (c4 _).use ?_; (with_reducible apply runO_go); simp only [go_sem, *])
    | ((with_reducible apply runO_callFG known11); (focus (simp only [go_sem, *]; rfl)); (focus (intro _; simp only [go_sem, *]; exact c4 _)); (with_reducible apply runO_go); simp only [go_sem, *])
    | ((with_reducible apply runD_callF known11); (focus (simp only [go_sem, *]; exact c4 _)); (with_reducible first | apply runD_go Cl.zero_plain | apply runD_goC); simp only [go_sem, *])
    | ((with_reducible apply runD_callFG known11); (focus rfl); (focus (simp only [go_sem, *]; rfl)); (focus (intro _; simp only [go_sem, *]; exact c4 _)); (with_reducible first | apply runD_go Cl.zero_plain | apply runD_goC); simp only [go_sem, *])
          | ((with_reducible apply runO_callF known13); simp only [go_sem, *]; refine (c5 _).use ?_; (with_reducible apply runO_go); simp only [go_sem, *])
    | ((with_reducible apply runO_callFG known13); (focus (simp only [go_sem, *]; rfl)); (focus (intro _; simp only [go_sem, *]; exact c5 _)); (with_reducible apply runO_go); simp only [go_sem, *])
    | ((with_reducible apply runD_callF known13); (focus (simp only [go_sem, *]; exact c5 _)); (with_reducible first | apply runD_go Cl.zero_plain | apply runD_goC); simp only [go_sem, *])
    | ((with_reducible apply runD_callFG known13); (focus rfl); (focus (simp only [go_sem, *]; rfl)); (focus (intro _; simp only [go_sem, *]; exact c5 _)); (with_reducible first | apply runD_go Cl.zero_plain | apply runD_goC); simp only [go_sem, *])
          | ((with_reducible apply runO_callF known11); simp only [go_sem, *]; refine (c6 _).use ?_; (with_reducible apply runO_go); simp only [go_sem, *])
    | ((with_reducible apply runO_callFG known11); (focus (simp only [go_sem, *]; rfl)); (focus (intro _; simp only [go_sem, *]; exact c6 _)); (with_reducible apply runO_go); simp only [go_sem, *])
    | ((with_reducible apply runD_callF known11); (focus (simp only [go_sem, *]; exact c6 _)); (with_reducible first | apply runD_go Cl.zero_plain | apply runD_goC); simp only [go_sem, *])
    | ((with_reducible apply runD_callFG known11); (focus rfl); (focus (simp only [go_sem, *]; rfl)); (focus (intro _; simp only [go_sem, *]; exact c6 _)); (with_reducible first | apply runD_go Cl.zero_plain | apply runD_goC); simp only [go_sem, *])
          | ((with_reducible apply runO_callF known13); simp only [go_sem, *]; refine (c7 _).use ?_; (with_reducible apply runO_go); simp only [go_sem, *])
    | ((with_reducible apply runO_callFG known13); (focus (simp only [go_sem, *]; rfl)); (focus (intro _; simp only [go_sem, *]; exact c7 _)); (with_reducible apply runO_go); simp only [go_sem, *])
    | ((with_reducible apply runD_callF known13); (focus (simp only [go_sem, *]; exact c7 _)); (with_reducible first | apply runD_go Cl.zero_plain | apply runD_goC); simp only [go_sem, *])
    | ((with_reducible apply runD_callFG known13); (focus rfl); (focus (simp only [go_sem, *]; rfl)); (focus (intro _; simp only [go_sem, *]; exact c7 _)); (with_reducible first | apply runD_go Cl.zero_plain | apply runD_goC); simp only [go_sem, *])
    | ((with_reducible apply run_ret Try.func8 res8 (H' := H)); (focus (simp only [go_sem, *]; rfl)); (focus trivial); (focus (repeat (first | assumption | exact Heap.sub_refl _ | refine Heap.sub_congr ?_ | refine Heap.sub_set ?_ (by assumption) | refine Heap.sub_set2 ?_ (by first | assumption | (simp only [*]; done) | (simp only [Heap.set_none', ne_eq, *, not_false_eq_true, and_self]; done))))))
    | ((with_reducible apply run_end Try.func8 res8 (H' := H)); (focus (simp only [go_sem, *]; rfl)); (focus trivial); (focus (repeat (first | assumption | exact Heap.sub_refl _ | refine Heap.sub_congr ?_ | refine Heap.sub_set ?_ (by assumption) | refine Heap.sub_set2 ?_ (by first | assumption | (simp only [*]; done) | (simp only [Heap.set_none', ne_eq, *, not_false_eq_true, and_self]; done)))))))
        rfl
  · rw [Bool.not_eq_true] at hf
    rw [hf] at c1
    repeat' (first
    | (with_reducible apply run_seq)
    | (with_reducible apply run_block)
    | (with_reducible apply run_inBlock)
    | (with_reducible apply run_skip)
    | (with_reducible apply run_exit rfl)
    | ((with_reducible apply run_go); simp only [go_sem, *])
    | ((with_reducible apply run_drawGo Cl.zero Cl.zero_plain mixed); (focus kernel_rfl); simp only [go_sem, *])
    | ((with_reducible apply run_cond_t); (focus (simp only [go_sem, *]; done)))
    | ((with_reducible apply run_cond_f); (focus (simp only [go_sem, *]; done)))
    | ((with_reducible apply run_cond); (focus (simp only [go_sem, *]; rfl)); (all_goals intro _))
    | ((with_reducible apply runO_box); (focus (simp only [go_sem, *]; done)); intro pb hpb; have hfb := Heap.ne_of_none hpb; (try simp only [Heap.set_none'] at hpb); (with_reducible apply runO_go); simp only [go_sem, *])
    | ((with_reducible apply runO_alloc); (focus (simp only [go_sem, *]; rfl)); intro pb hpb; have hfb := Heap.ne_of_none hpb; (try simp only [Heap.set_none'] at hpb); (with_reducible apply runO_go); simp only [go_sem, *])
    | ((with_reducible apply runD_box); (focus (simp only [go_sem, *]; done)); intro pb hpb; have hfb := Heap.ne_of_none hpb; (try simp only [Heap.set_none'] at hpb); (with_reducible first | apply runD_go Cl.zero_plain | apply runD_goC); simp only [go_sem, *])
    | ((with_reducible apply runD_alloc); (focus (simp only [go_sem, *]; rfl)); intro pb hpb; have hfb := Heap.ne_of_none hpb; (try simp only [Heap.set_none'] at hpb); (with_reducible first | apply runD_go Cl.zero_plain | apply runD_goC); simp only [go_sem, *])
    | ((with_reducible apply runO_sliceNil); (focus (simp only [go_sem]; rfl)); (focus (simp only [go_sem, *]; rfl)); intro bn hbn; (with_reducible apply runO_go); simp only [go_sem, *])
    | ((with_reducible apply runO_makeMap); intro pb hpb; have hfb := Heap.ne_of_none hpb; (try simp only [Heap.set_none'] at hpb); (with_reducible apply runO_go); simp only [go_sem, *])
    | ((with_reducible apply runO_store); (focus (simp only [go_sem]; rfl)); (focus (simp only [go_sem, *]; rfl)); (focus (simp only [go_sem, *]; rfl)); (focus (simp only [go_sem, *]; done)); (focus (simp only [go_sem, *]; done)); (focus (simp only [go_sem, *]; done)); (with_reducible apply runO_go); simp only [go_sem, *, Heap.set_set])
    | ((with_reducible apply runD_store); (focus (simp only [go_sem]; rfl)); (focus (simp only [go_sem, *]; rfl)); (focus (simp only [go_sem, *]; rfl)); (focus (simp only [go_sem, *]; done)); (focus (simp only [go_sem, *]; done)); (focus (simp only [go_sem, *]; done)); (focus (first | rfl | (simp only [go_sem, *]; done))); (with_reducible first | apply runD_go Cl.zero_plain | apply runD_goC); simp only [go_sem, *, Heap.set_set])
    | ((with_reducible apply runD_skipF); (focus rfl); (focus (simp only [go_sem, *]; rfl)); (focus rfl); (with_reducible first | apply runD_go Cl.zero_plain | apply runD_goC); simp only [go_sem, *])
    | ((with_reducible apply runO_skipF); (focus (simp only [go_sem, *]; rfl)); (focus rfl); (with_reducible apply runO_go); simp only [go_sem, *])
    | ((first | (with_reducible apply runA_and) | (with_reducible apply runO_and) | (with_reducible apply runD_and)); (focus (first | assumption | (simp only [go_sem, *]; done) | (simp only [go_sem, *]; assumption))); (try simp only [go_sem, *]))
    | ((with_reducible apply runO_callF known9); simp only [go_sem, *]; refine (c0 _).use ?_; (with_reducible apply runO_go); simp only [go_sem, *])
    | ((with_reducible apply runO_callFG known9); (focus (simp only [go_sem, *]; rfl)); (focus (intro _; simp only [go_sem, *]; exact c0 _)); (with_reducible apply runO_go); simp only [go_sem, *])
    | ((with_reducible apply runD_callF known9); (focus (simp only [go_sem, *]; exact c0 _)); (with_reducible first | apply runD_go Cl.zero_plain | apply runD_goC); simp only [go_sem, *])
    | ((with_reducible apply runD_callFG known9); (focus rfl); (focus (simp only [go_sem, *]; rfl)); (focus (intro _; simp only [go_sem, *]; exact c0 _)); (with_reducible first | apply runD_go Cl.zero_plain | apply runD_goC); simp only [go_sem, *])
      | ((with_reducible apply runO_callF known10); simp only [go_sem, *]; refine (c1 _).use ?_; (with_reducible apply runO_go); simp only [go_sem, *])
    | ((with_reducible apply runO_callFG known10); (focus (simp only [go_sem, *]; rfl)); (focus (intro _; simp only [go_sem, *]; exact c1 _)); (with_reducible apply runO_go); simp only [go_sem, *])
    | ((with_reducible apply runD_callF known10); (focus (simp only [go_sem, *]; exact c1 _)); (with_reducible first | apply runD_go Cl.zero_plain | apply runD_goC); simp only [go_sem, *])
    | ((with_reducible apply runD_callFG known10); (focus rfl); (focus (simp only [go_sem, *]; rfl)); (focus (intro _; simp only [go_sem, *]; exact c1 _)); (with_reducible first | apply runD_go Cl.zero_plain | apply runD_goC); simp only [go_sem, *])
    | ((with_reducible apply run_ret Try.func8 res8 (H' := H)); (focus (simp only [go_sem, *]; rfl)); (focus trivial); (focus (repeat (first | assumption | exact Heap.sub_refl _ | refine Heap.sub_congr ?_ | refine Heap.sub_set ?_ (by assumption) | refine Heap.sub_set2 ?_ (by first | assumption | (simp only [*]; done) | (simp only [Heap.set_none', ne_eq, *, not_false_eq_true, and_self]; done))))))
    | ((with_reducible apply run_end Try.func8 res8 (H' := H)); (focus (simp only [go_sem, *]; rfl)); (focus trivial); (focus (repeat (first | assumption | exact Heap.sub_refl _ | refine Heap.sub_congr ?_ | refine Heap.sub_set ?_ (by assumption) | refine Heap.sub_set2 ?_ (by first | assumption | (simp only [*]; done) | (simp only [Heap.set_none', ne_eq, *, not_false_eq_true, and_self]; done)))))))
    rfl
end Go.Proofs.Ytkoechchjiddhaa
