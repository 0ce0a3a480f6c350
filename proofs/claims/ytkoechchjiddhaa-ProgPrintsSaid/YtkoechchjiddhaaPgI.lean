/-
  Contracts: copies of programs.
-/
import Derived.Test.YtkoechchjiddhaaPgAC
import Derived.Test.YtkoechchjiddhaaLibB
set_option linter.unusedSimpArgs false
set_option linter.unusedVariables false
namespace Go.Proofs.Ytkoechchjiddhaa
open Go Go.Sn Go.RowKit

theorem cloneI_call (W : World) (H : Heap) (c : List In) (hc : c.length ≤ 1000000) :
    CallA Try.prog W 27 [.list (insC c)] H fun r H' => r = .list (insC c) ∧ H' = H := by
  refine call_in Try.func27 rfl Try.ntmps27 (by simp) ?_
  repeat' (first
    | (with_reducible apply run_seq)
    | (with_reducible apply run_skip)
    | ((with_reducible apply run_go); simp only [go_sem, *])
    | ((with_reducible apply run_cond); (focus (simp only [go_sem, *]; rfl)); (all_goals intro _))
    | ((with_reducible apply runO_sliceNil); (focus (simp only [go_sem]; rfl)); (focus (simp only [go_sem, *]; rfl)); intro bn hbn; (with_reducible apply runO_go); simp only [go_sem, *])
    | ((with_reducible apply runO_buildSlice); (focus (simp only [go_sem]; rfl)); (focus (simp only [go_sem]; rfl)); (focus (simp only [go_sem]; rfl)); (focus rfl); (focus rfl); (focus (simp only [go_sem, *]; done)); (focus (simp only [go_sem, *]; done)); (focus decide); (with_reducible apply runO_go); simp only [go_sem, *])
    | ((with_reducible apply run_ret Try.func27 res27 (H' := H)); (focus (simp only [go_sem, *]; rfl)); (focus trivial); (focus (repeat (first | assumption | exact Heap.sub_refl _ | refine Heap.sub_congr ?_ | refine Heap.sub_set ?_ (by assumption) | refine Heap.sub_set2 ?_ (by first | assumption | (simp only [*]; done) | (simp only [Heap.set_none', ne_eq, *, not_false_eq_true, and_self]; done)))))))
  · exact ⟨rfl, rfl⟩
  · have hc0 : Coll H 34 4 [] .nil H := .none rfl
    (refine runO_collL (t := 32) Try.underlying32 sz34 by34 zr34 rfl (by simp only [go_sem, *]; exact hc0) (by simp only [go_sem, *]; rfl) (by simp) (insC_all _) (by (try simp only [List.length_range, List.length_map, List.length_take, List.length_cons, List.length_nil, List.length_append, go_sem]); omega) (by (try simp only [maxLen, List.length_range, List.length_map, List.length_take, List.length_cons, List.length_nil, List.length_append, go_sem]); omega) ?_; (with_reducible apply runO_go); simp only [go_sem, *])
    repeat' (first
    | ((with_reducible apply run_ret Try.func27 res27 (H' := H)); (focus (simp only [go_sem, *]; rfl)); (focus trivial); (focus (repeat (first | assumption | exact Heap.sub_refl _ | refine Heap.sub_congr ?_ | refine Heap.sub_set ?_ (by assumption) | refine Heap.sub_set2 ?_ (by first | assumption | (simp only [*]; done) | (simp only [Heap.set_none', ne_eq, *, not_false_eq_true, and_self]; done)))))))
    exact ⟨rfl, rfl⟩

/-- The outer slice of a copy: a row of ours, or nothing. -/
def CloneP (l : List (List In)) (H : Heap) (d : D) (H' : Heap) : Prop := (l = [] ∧ d = .list [] ∧ H' = H) ∨
  (l ≠ [] ∧ ∃ b c rest, H b = none ∧ l.length ≤ c ∧ rest.length = c - l.length ∧ d = .v (.slice (some ⟨b, 0, none⟩) l.length c) ∧ H' = H.set b (.cells ((thsC l).flatten ++ rest) 32))
theorem cloneT_call (W : World) (H : Heap) (l : List (List In)) (hl : l.length ≤ 1000000) :
    CallA Try.prog W 26 [.list (thsC l)] H (CloneP l H) := by
  refine call_in Try.func26 rfl Try.ntmps26 (by simp) ?_
  by_cases h0 : l = []
  · subst h0
    have hz : thsC [] = [] := rfl
    simp only [hz]
    repeat' (first
    | (with_reducible apply run_seq)
    | (with_reducible apply run_skip)
    | ((with_reducible apply run_go); simp only [go_sem, *])
    | ((with_reducible apply run_cond); (focus (simp only [go_sem, *]; rfl)); (all_goals intro _))
    | ((with_reducible apply runO_sliceNil); (focus (simp only [go_sem]; rfl)); (focus (simp only [go_sem, *]; rfl)); intro bn hbn; (with_reducible apply runO_go); simp only [go_sem, *])
    | ((with_reducible apply runO_buildSlice); (focus (simp only [go_sem]; rfl)); (focus (simp only [go_sem]; rfl)); (focus (simp only [go_sem]; rfl)); (focus rfl); (focus rfl); (focus (simp only [go_sem, *]; done)); (focus (simp only [go_sem, *]; done)); (focus decide); (with_reducible apply runO_go); simp only [go_sem, *])
    | ((with_reducible apply run_ret Try.func26 res26 (H' := H)); (focus (simp only [go_sem, *]; rfl)); (focus trivial); (focus (repeat (first | assumption | exact Heap.sub_refl _ | refine Heap.sub_congr ?_ | refine Heap.sub_set ?_ (by assumption) | refine Heap.sub_set2 ?_ (by first | assumption | (simp only [*]; done) | (simp only [Heap.set_none', ne_eq, *, not_false_eq_true, and_self]; done)))))))
    · exact .inl ⟨rfl, rfl, rfl⟩
    · refine runO_append_nil (t := 22) (ys := []) Try.underlying22 sz32 by32 zr32 rfl (by simp only [go_sem, *]) (by first | (simp only [go_sem, *]; done) | (simp only [go_sem, *]; rfl)) (by simp) (by simp) (by simp) (fun _ => ?_) (fun h => absurd rfl h)
      (with_reducible apply runO_go); simp only [go_sem]
      repeat' (first
    | ((with_reducible apply run_ret Try.func26 res26 (H' := H)); (focus (simp only [go_sem, *]; rfl)); (focus trivial); (focus (repeat (first | assumption | exact Heap.sub_refl _ | refine Heap.sub_congr ?_ | refine Heap.sub_set ?_ (by assumption) | refine Heap.sub_set2 ?_ (by first | assumption | (simp only [*]; done) | (simp only [Heap.set_none', ne_eq, *, not_false_eq_true, and_self]; done)))))))
      exact .inl ⟨rfl, rfl, rfl⟩
  · have hne : thsC l ≠ [] := by simpa [thsC] using h0
    repeat' (first
    | (with_reducible apply run_seq)
    | (with_reducible apply run_skip)
    | ((with_reducible apply run_go); simp only [go_sem, *])
    | ((with_reducible apply run_cond); (focus (simp only [go_sem, *]; rfl)); (all_goals intro _))
    | ((with_reducible apply runO_sliceNil); (focus (simp only [go_sem]; rfl)); (focus (simp only [go_sem, *]; rfl)); intro bn hbn; (with_reducible apply runO_go); simp only [go_sem, *])
    | ((with_reducible apply runO_buildSlice); (focus (simp only [go_sem]; rfl)); (focus (simp only [go_sem]; rfl)); (focus (simp only [go_sem]; rfl)); (focus rfl); (focus rfl); (focus (simp only [go_sem, *]; done)); (focus (simp only [go_sem, *]; done)); (focus decide); (with_reducible apply runO_go); simp only [go_sem, *])
    | ((with_reducible apply run_ret Try.func26 res26 (H' := H)); (focus (simp only [go_sem, *]; rfl)); (focus trivial); (focus (repeat (first | assumption | exact Heap.sub_refl _ | refine Heap.sub_congr ?_ | refine Heap.sub_set ?_ (by assumption) | refine Heap.sub_set2 ?_ (by first | assumption | (simp only [*]; done) | (simp only [Heap.set_none', ne_eq, *, not_false_eq_true, and_self]; done)))))))
    · rename_i hb
      exact absurd (hbn hb) hne
    · refine runO_append_cellsR (t := 22) (ys := thsC l) Try.underlying22 sz32 by32 zr32 rfl (by simp only [go_sem, *]) (.imm (by simp only [go_sem, *])) (thsC_all l) (by rw [thsC_length]; omega) (by rw [thsC_length]; simp only [maxLen]; omega) hne (fun b c rest hb hcap hrl => ?_)
      rw [thsC_length] at hcap hrl ⊢
      rw [Nat.mul_one] at hrl
      (with_reducible apply runO_go); simp only [go_sem]
      repeat' (first
    | ((with_reducible apply run_ret Try.func26 res26 (H' := H.set b (.cells ((thsC l).flatten ++ rest) 32))); (focus (simp only [go_sem, *]; rfl)); (focus trivial); (focus (repeat (first | assumption | exact Heap.sub_refl _ | refine Heap.sub_congr ?_ | refine Heap.sub_set ?_ (by assumption) | refine Heap.sub_set2 ?_ (by first | assumption | (simp only [*]; done) | (simp only [Heap.set_none', ne_eq, *, not_false_eq_true, and_self]; done)))))))
      exact .inr ⟨h0, b, c, rest, hb, hcap, hrl, rfl, rfl⟩

/-- A copy: its outer slice a row of ours. -/
def CopyP (p : Pg) (H : Heap) (d : D) (H' : Heap) : Prop := (p.th = [] ∧ d = .agg (pgC p) ∧ H' = H) ∨
  (p.th ≠ [] ∧ ∃ b c rest, H b = none ∧ p.th.length ≤ c ∧ rest.length = c - p.th.length ∧ d = .agg [.v (.int .i64 p.vs), .v (.int .i64 p.ms), .v (.slice (some ⟨b, 0, none⟩) p.th.length c)] ∧ H' = H.set b (.cells ((thsC p.th).flatten ++ rest) 32))

theorem ths_get (l : List (List In)) (rest : List D) {k : Nat} (h : k < l.length) : ((thsC l).flatten ++ rest).getD k default = .list (insC (l.getD k [])) := by
  have h1 := row_elem (thsC l) rest (thsC_all l) (i := k) (by rw [thsC_length]; exact h)
  rw [thsC_get _ _ h] at h1
  have h2 := congrArg (fun x : List D => x.getD 0 default) h1
  simpa [List.getD_eq_getElem?_getD, List.getElem?_take, List.getElem?_drop] using h2
theorem ths_put (l : List (List In)) (rest : List D) {k : Nat} (h : k < l.length) (x : List In) : ((thsC l).flatten ++ rest).take k ++ [D.list (insC x)] ++ ((thsC l).flatten ++ rest).drop (k + 1) = (thsC (l.set k x)).flatten ++ rest := by
  have h1 := row_put (thsC l) rest (thsC_all l) (i := k) (by rw [thsC_length]; exact h) [D.list (insC x)]
  simp only [Nat.mul_one] at h1
  rw [h1]
  simp [thsC]
theorem set_getD {α : Type} [Inhabited α] (l : List α) (k : Nat) : l.set k (l.getD k default) = l := by
  by_cases h : k < l.length
  · have : l.getD k default = l[k] := by simp [List.getD_eq_getElem?_getD, List.getElem?_eq_getElem h]
    rw [this, List.set_getElem_self]
  · rw [List.set_eq_of_length_le (Nat.not_lt.1 h)]
theorem ths_len (l : List (List In)) (rest : List D) : ((thsC l).flatten ++ rest).length = l.length + rest.length := by
  rw [List.length_append, elems_all (thsC_all l), thsC_length, Nat.mul_one]

set_option maxHeartbeats 4000000 in
theorem copy_call (W : World) (H : Heap) (p : Pg) (hf : FewP p) :
    CallA Try.prog W 14 [.agg (pgC p)] H (CopyP p H) := by
  refine call_in Try.func14 rfl Try.ntmps14 (by simp) ?_
  repeat' (first
    | (with_reducible apply run_seq)
    | ((with_reducible apply run_go); simp only [go_sem, *])
    | ((with_reducible apply runO_box); (focus (simp only [go_sem, *]; done)); intro pb hpb; have hfb := Heap.ne_of_none hpb; (try simp only [Heap.set_none'] at hpb); (with_reducible apply runO_go); simp only [go_sem, *])
    | ((with_reducible apply runO_alloc); (focus (simp only [go_sem, *]; rfl)); intro pb hpb; have hfb := Heap.ne_of_none hpb; (try simp only [Heap.set_none'] at hpb); (with_reducible apply runO_go); simp only [go_sem, *]))
  (with_reducible apply runO_callF known26); simp only [go_sem, *]
  rename_i p1 hp1 hf1
  generalize pb = p2 at *
  refine (cloneT_call W _ p.th (by have := hf.len; omega)).mono (fun d1 H1 hcl => ?_)
  rcases hcl with ⟨h0, rfl, rfl⟩ | ⟨h0, b, c, rest, hb, hcap, hrl, rfl, rfl⟩
  · (with_reducible apply runO_go); simp only [go_sem, *]
    repeat' (first
    | (with_reducible apply run_seq)
    | (with_reducible apply run_block)
    | ((with_reducible apply run_go); simp only [go_sem, *])
    | ((with_reducible apply runO_store); (focus (simp only [go_sem]; rfl)); (focus (simp only [go_sem, *]; rfl)); (focus (simp only [go_sem, *]; rfl)); (focus (simp only [go_sem, *]; done)); (focus (simp only [go_sem, *]; done)); (focus (simp only [go_sem, *]; done)); (with_reducible apply runO_go); simp only [go_sem, *, Heap.set_set]))
    refine run_loop1 ?_
    repeat' (first
    | (with_reducible apply run_seq)
    | (with_reducible apply run_exit rfl)
    | ((with_reducible apply run_go); simp only [go_sem, *])
    | ((with_reducible apply run_cond_f); (focus (simp only [go_sem, *]; done)))
    | ((with_reducible apply runO_store); (focus (simp only [go_sem]; rfl)); (focus (simp only [go_sem, *]; rfl)); (focus (simp only [go_sem, *]; rfl)); (focus (simp only [go_sem, *]; done)); (focus (simp only [go_sem, *]; done)); (focus (simp only [go_sem, *]; done)); (with_reducible apply runO_go); simp only [go_sem, *, Heap.set_set])
    | ((with_reducible apply run_ret Try.func14 res14 (H' := H)); (focus (simp only [go_sem, *]; rfl)); (focus trivial); (focus (repeat (first | assumption | exact Heap.sub_refl _ | refine Heap.sub_congr ?_ | refine Heap.sub_set ?_ (by assumption) | refine Heap.sub_set2 ?_ (by first | assumption | (simp only [*]; done) | (simp only [Heap.set_none', ne_eq, *, not_false_eq_true, and_self]; done)))))))
    refine .inl ⟨h0, ?_, rfl⟩
    unfold pgC
    rw [h0]
    rfl
  · have HRL : Hid _ := hrl
    clear hrl
    have hfc := Heap.ne_of_none hb
    (with_reducible apply runO_go); simp only [go_sem, *]
    repeat' (first
    | (with_reducible apply run_seq)
    | (with_reducible apply run_block)
    | ((with_reducible apply run_go); simp only [go_sem, *])
    | ((with_reducible apply runO_store); (focus (simp only [go_sem]; rfl)); (focus (simp only [go_sem, *]; rfl)); (focus (simp only [go_sem, *]; rfl)); (focus (simp only [go_sem, *]; done)); (focus (simp only [go_sem, *]; done)); (focus (simp only [go_sem, *]; done)); (with_reducible apply runO_go); simp only [go_sem, *, Heap.set_set]))
    simp only [Heap.set_none'] at hb
    obtain ⟨⟨hb2, hb2'⟩, ⟨hb1, hb1'⟩, hbH⟩ := hb
    have h20 := hf.len
    have HF : Hid (FewP p) := hf
    refine run_drop (H' := ((H.set b (.cells ((thsC p.th).flatten ++ rest) 32)).set p2 (.cells [D.v (.int .i64 0), D.v (.int .i64 0), D.nil] 24)).set p1 (.cells [.v (.int .i64 p.vs), .v (.int .i64 p.ms), .v (.slice (some ⟨b, 0, none⟩) p.th.length c)] 24)) (fun k r hk => ?_) ?_
    · simp only [Heap.set_at] at hk ⊢
      clear hf1 hfb hfc hf HF
      grind
    clear hf1 hfb hfc hf
    refine run_loop (fun na ea Ha => ∃ (k : Nat), k ≤ p.th.length ∧ na = p.th.length - k ∧ ea 1 = .v (.pointer (some ⟨p1, 0, none⟩)) ∧ ea 2 = .v (.pointer (some ⟨p2, 0, none⟩)) ∧ ea 10 = .v (.slice (some ⟨b, 0, none⟩) p.th.length c) ∧ ea 11 = .v (.int .i64 (p.th.length : Int)) ∧ ea 12 = .v (.int .i64 (k : Int)) ∧ ((H.set b (.cells ((thsC p.th).flatten ++ rest) 32)).set p2 (.cells [D.v (.int .i64 0), D.v (.int .i64 0), D.nil] 24)).set p1 (.cells [.v (.int .i64 p.vs), .v (.int .i64 p.ms), .v (.slice (some ⟨b, 0, none⟩) p.th.length c)] 24) = Ha) (p.th.length)
        ⟨0, Nat.zero_le _, rfl, (by simp only [go_sem, *]), (by simp only [go_sem, *]), (by simp only [go_sem, *]), (by simp only [go_sem, *]), (by simp only [go_sem] <;> rfl), rfl⟩ ?_
    rintro na ea Ha ih ⟨k, ak, rfl, as1, as2, as10, as11, as12, rfl⟩
    have IHa : Hid _ := ih
    clear ih
    by_cases hlt : k < p.th.length
    · have hw := wrap_succ (k := k) (by omega)
      have g1 := ths_get p.th rest hlt
      have g2 := ths_put p.th rest hlt (p.th.getD k [])
      have g3 : p.th.set k (p.th.getD k []) = p.th := set_getD p.th k
      rw [g3] at g2
      have g4 := ths_len p.th rest
      have g5 : k < p.th.length + rest.length := by omega
      have g6 : k + 1 ≤ p.th.length + rest.length := by omega
      have c1 := fun H => cloneI_call W H (p.th.getD k []) (by have := HF.out.get k; omega)
      clear g3
      repeat' (first
    | (with_reducible apply run_seq)
    | (with_reducible apply run_block)
    | (with_reducible apply run_inBlock)
    | (with_reducible apply run_skip)
    | ((with_reducible apply run_go); simp only [go_sem, *])
    | ((with_reducible apply run_drawGo Cl.zero Cl.zero_plain mixed); (focus kernel_rfl); simp only [go_sem, *])
    | ((with_reducible apply run_cond_t); (focus (simp only [go_sem, *]; done)))
    | ((with_reducible apply runD_store); (focus (simp only [go_sem]; rfl)); (focus (simp only [go_sem, *]; rfl)); (focus (simp only [go_sem, *]; rfl)); (focus (simp only [go_sem, *]; done)); (focus (simp only [go_sem, *]; done)); (focus (simp only [go_sem, *]; done)); (focus (first | rfl | (simp only [go_sem, *]; done))); (with_reducible first | apply runD_go Cl.zero_plain | apply runD_goC); simp only [go_sem, *, Heap.set_set])
    | ((with_reducible apply runD_callF known27); (focus rfl); (focus (simp only [go_sem, *]; exact c1 _)); (with_reducible first | apply runD_go Cl.zero_plain | apply runD_goC); simp only [go_sem, *]))
      refine run_drop (H' := ((H.set b (.cells ((thsC p.th).flatten ++ rest) 32)).set p2 (.cells [D.v (.int .i64 0), D.v (.int .i64 0), D.nil] 24)).set p1 (.cells [.v (.int .i64 p.vs), .v (.int .i64 p.ms), .v (.slice (some ⟨b, 0, none⟩) p.th.length c)] 24)) (fun k r hk => ?_) ?_
      · simp only [Heap.set_at] at hk ⊢
        clear IHa HF c1 g1 g2
        grind
      refine IHa.out (p.th.length - (k + 1)) _ _ (by omega) ⟨k + 1, by omega, rfl, (by simp only [go_sem, *]), (by simp only [go_sem, *]), (by simp only [go_sem, *]), (by simp only [go_sem, *]), (by simp only [go_sem, *]), rfl⟩
    · obtain rfl : k = p.th.length := by omega
      repeat' (first
    | (with_reducible apply run_seq)
    | (with_reducible apply run_exit rfl)
    | ((with_reducible apply run_go); simp only [go_sem, *])
    | ((with_reducible apply run_cond_f); (focus (simp only [go_sem, *]; done)))
    | ((with_reducible apply runO_store); (focus (simp only [go_sem]; rfl)); (focus (simp only [go_sem, *]; rfl)); (focus (simp only [go_sem, *]; rfl)); (focus (simp only [go_sem, *]; done)); (focus (simp only [go_sem, *]; done)); (focus (simp only [go_sem, *]; done)); (with_reducible apply runO_go); simp only [go_sem, *, Heap.set_set])
    | ((with_reducible apply run_ret Try.func14 res14 (H' := H.set b (.cells ((thsC p.th).flatten ++ rest) 32))); (focus (simp only [go_sem, *]; rfl)); (focus trivial); (focus (repeat (first | assumption | exact Heap.sub_refl _ | refine Heap.sub_congr ?_ | refine Heap.sub_set ?_ (by assumption) | refine Heap.sub_set2 ?_ (by first | assumption | (simp only [*]; done) | (simp only [Heap.set_none', ne_eq, *, not_false_eq_true, and_self]; done)))))))
      exact .inr ⟨h0, b, c, rest, hbH, hcap, HRL.out, rfl, rfl⟩

/-- A copy that is only read. -/
theorem copyF_call (W : World) (H : Heap) (p : Pg) (hf : FewP p) : CallA Try.prog W 14 [.agg (pgC p)] H fun r H' => r = .agg (pgC p) ∧ H' = H := by
  intro G vs w hI hR
  refine (copy_call W H p hf G vs w hI hR).mono fun e w' ⟨G', v, d, H', he, hG, hI', hR', hQ⟩ => ?_
  rcases hQ with ⟨h0, rfl, rfl⟩ | ⟨h0, b, c, rest, hb, hcap, hrl, rfl, rfl⟩
  · exact ⟨G', v, _, _, he, hG, hI', hR', rfl, rfl⟩
  · obtain ⟨G2, hle, hI2, hcells⟩ := hI'.freeze (Heap.set_same _ _ _)
    rw [Heap.del_set hb] at hI2
    refine ⟨G2, v, .agg (pgC p), H, he, hG.trans hle, hI2, ?_, rfl, rfl⟩
    obtain ⟨cs, rfl, hcs⟩ := hR'.inv_agg
    obtain ⟨x0, x1, x2, rfl⟩ : ∃ x0 x1 x2, cs = [x0, x1, x2] := by
      have hl := hcs.1
      match cs, hl with
      | [x0, x1, x2], _ => exact ⟨x0, x1, x2, rfl⟩
    refine Rep.mkAgg (Reps.cons ((hcs.2 0 _ _ rfl rfl).mono hle) (Reps.cons ((hcs.2 1 _ _ rfl rfl).mono hle) (Reps.cons ?_ (Reps.nil _))))
    rw [(hcs.2 2 _ _ rfl rfl).inv_v]
    refine Rep.mkList (by rw [thsC_length]) hcap (thsC_all p.th) ?_
    have := hcells.take (thsC p.th).flatten.length
    rwa [List.take_left] at this
end Go.Proofs.Ytkoechchjiddhaa
