/-
  Contracts: copies of programs whose instructions are written.
-/
import Derived.Test.YtkoechchjiddhaaPgI
set_option linter.unusedSimpArgs false
set_option linter.unusedVariables false
namespace Go.Proofs.Ytkoechchjiddhaa
open Go Go.Sn Go.RowKit

/-- A thread's row of a copy: its block, its room, what stands in the room. -/
structure Rw where
  c : List In
  o : Option (Nat × Nat × List D)
instance : Inhabited Rw := ⟨⟨[], none⟩⟩
def Rw.d (r : Rw) : D := match r.o with | none => .list [] | some x => .v (.slice (some ⟨x.1, 0, none⟩) r.c.length x.2.1)
def Rw.at (K : Heap) (r : Rw) : Prop := match r.o with | none => r.c = [] | some x => r.c.length ≤ x.2.1 ∧ K x.1 = some (.cells ((insC r.c).flatten ++ x.2.2) 34)
def Rw.b (r : Rw) : Option Nat := r.o.map (·.1)
def bks (rs : List Rw) : List Nat := rs.filterMap Rw.b
theorem bks_mem {rs : List Rw} {r : Rw} (h : r ∈ rs) {x : Nat × Nat × List D} (hx : r.o = some x) : x.1 ∈ bks rs := List.mem_filterMap.2 ⟨r, h, by unfold Rw.b; rw [hx]; rfl⟩
/-- A copy's rows: `ds` behind those that are copied already. -/
structure CpA (H K : Heap) (b : Nat) (ds : List D) (rs : List Rw) : Prop where
  hb : K b = some (.cells (rs.map Rw.d ++ ds) 32)
  rw : ∀ r ∈ rs, r.at K
  nd : (b :: bks rs).Nodup
  sub : H.sub K
  fr : ∀ q ∈ b :: bks rs, H q = none
theorem Rw.at_set {K : Heap} {r : Rw} (h : r.at K) {q : Nat} {x : Res} (hq : ∀ y, r.o = some y → y.1 ≠ q) : r.at (K.set q x) := by
  unfold Rw.at at *
  cases ho : r.o with
  | none => rw [ho] at h; exact h
  | some y => rw [ho] at h; exact ⟨h.1, by rw [Heap.set_other _ _ (hq y ho)]; exact h.2⟩

def CloneQ (c : List In) (H : Heap) (d : D) (H' : Heap) : Prop := (c = [] ∧ d = .list [] ∧ H' = H) ∨
  (c ≠ [] ∧ ∃ b cap rest, H b = none ∧ c.length ≤ cap ∧ d = .v (.slice (some ⟨b, 0, none⟩) c.length cap) ∧ H' = H.set b (.cells ((insC c).flatten ++ rest) 34))
theorem cloneQ_call (W : World) (H : Heap) (l : List In) (hl : l.length ≤ 1000000) :
    CallA Try.prog W 27 [.list (insC l)] H (CloneQ l H) := by
  refine call_in Try.func27 rfl Try.ntmps27 (by simp) ?_
  by_cases h0 : l = []
  · subst h0
    have hz : insC [] = [] := rfl
    simp only [hz]
    repeat' (first
    | (with_reducible apply run_seq)
    | (with_reducible apply run_skip)
    | ((with_reducible apply run_go); simp only [go_sem, *])
    | ((with_reducible apply run_cond); (focus (simp only [go_sem, *]; rfl)); (all_goals intro _))
    | ((with_reducible apply runO_sliceNil); (focus (simp only [go_sem]; rfl)); (focus (simp only [go_sem, *]; rfl)); intro bn hbn; (with_reducible apply runO_go); simp only [go_sem, *])
    | ((with_reducible apply runO_buildSlice); (focus (simp only [go_sem]; rfl)); (focus (simp only [go_sem]; rfl)); (focus (simp only [go_sem]; rfl)); (focus rfl); (focus rfl); (focus (simp only [go_sem, *]; done)); (focus (simp only [go_sem, *]; done)); (focus decide); (with_reducible apply runO_go); simp only [go_sem, *])
    | ((with_reducible apply run_ret Try.func27 res27 (H' := H)); (focus (simp only [go_sem, *]; rfl)); (focus trivial); (focus (repeat (first | assumption | exact Heap.sub_refl _ | refine Heap.sub_congr ?_ | refine Heap.sub_set ?_ (by assumption) | refine Heap.sub_set2 ?_ (by first | assumption | (simp only [*]; done) | (simp only [Heap.set_none', ne_eq, *, not_false_eq_true, and_self]; done)))))))
    · exact .inl ⟨rfl, rfl, rfl⟩
    · refine runO_append_nil (t := 32) (ys := []) Try.underlying32 sz34 by34 zr34 rfl (by simp only [go_sem, *]) (by first | (simp only [go_sem, *]; done) | (simp only [go_sem, *]; rfl)) (by simp) (by simp) (by simp) (fun _ => ?_) (fun h => absurd rfl h)
      (with_reducible apply runO_go); simp only [go_sem]
      repeat' (first
    | ((with_reducible apply run_ret Try.func27 res27 (H' := H)); (focus (simp only [go_sem, *]; rfl)); (focus trivial); (focus (repeat (first | assumption | exact Heap.sub_refl _ | refine Heap.sub_congr ?_ | refine Heap.sub_set ?_ (by assumption) | refine Heap.sub_set2 ?_ (by first | assumption | (simp only [*]; done) | (simp only [Heap.set_none', ne_eq, *, not_false_eq_true, and_self]; done)))))))
      exact .inl ⟨rfl, rfl, rfl⟩
  · have hne : insC l ≠ [] := by simpa [insC] using h0
    repeat' (first
    | (with_reducible apply run_seq)
    | (with_reducible apply run_skip)
    | ((with_reducible apply run_go); simp only [go_sem, *])
    | ((with_reducible apply run_cond); (focus (simp only [go_sem, *]; rfl)); (all_goals intro _))
    | ((with_reducible apply runO_sliceNil); (focus (simp only [go_sem]; rfl)); (focus (simp only [go_sem, *]; rfl)); intro bn hbn; (with_reducible apply runO_go); simp only [go_sem, *])
    | ((with_reducible apply runO_buildSlice); (focus (simp only [go_sem]; rfl)); (focus (simp only [go_sem]; rfl)); (focus (simp only [go_sem]; rfl)); (focus rfl); (focus rfl); (focus (simp only [go_sem, *]; done)); (focus (simp only [go_sem, *]; done)); (focus decide); (with_reducible apply runO_go); simp only [go_sem, *])
    | ((with_reducible apply run_ret Try.func27 res27 (H' := H)); (focus (simp only [go_sem, *]; rfl)); (focus trivial); (focus (repeat (first | assumption | exact Heap.sub_refl _ | refine Heap.sub_congr ?_ | refine Heap.sub_set ?_ (by assumption) | refine Heap.sub_set2 ?_ (by first | assumption | (simp only [*]; done) | (simp only [Heap.set_none', ne_eq, *, not_false_eq_true, and_self]; done)))))))
    · rename_i hb
      exact absurd (hbn hb) hne
    · refine runO_append_cellsR (t := 32) (ys := insC l) Try.underlying32 sz34 by34 zr34 rfl (by simp only [go_sem, *]) (.imm (by simp only [go_sem, *])) (insC_all l) (by rw [insC_length]; omega) (by rw [insC_length]; simp only [maxLen]; omega) hne (fun b c rest hb hcap hrl => ?_)
      rw [insC_length] at hcap ⊢
      (with_reducible apply runO_go); simp only [go_sem]
      repeat' (first
    | ((with_reducible apply run_ret Try.func27 res27 (H' := H.set b (.cells ((insC l).flatten ++ rest) 34))); (focus (simp only [go_sem, *]; rfl)); (focus trivial); (focus (repeat (first | assumption | exact Heap.sub_refl _ | refine Heap.sub_congr ?_ | refine Heap.sub_set ?_ (by assumption) | refine Heap.sub_set2 ?_ (by first | assumption | (simp only [*]; done) | (simp only [Heap.set_none', ne_eq, *, not_false_eq_true, and_self]; done)))))))
      exact .inr ⟨h0, b, c, rest, hb, hcap, rfl, rfl⟩

theorem sub_outP {H K : Heap} {b : Nat} {r : Res} (h : H.sub K) (hb : H b = none) : H.sub (K.set b r) := fun q x hq => by
  by_cases e : q = b
  · subst e; rw [hb] at hq; cases hq
  · rw [Heap.set_other _ _ e]; exact h q x hq
theorem rowD_get (rs : List Rw) (ds : List D) (k : Nat) (hk : k = rs.length) {x : D} (hx : ds[0]? = some x) : (rs.map Rw.d ++ ds).getD k default = x := by
  subst hk
  rw [List.getD_eq_getElem?_getD, List.getElem?_append_right (by simp)]
  simp [hx]
theorem rowD_put (rs : List Rw) (ds : List D) (r : Rw) (k : Nat) (hk : k = rs.length) : (rs.map Rw.d ++ ds).take k ++ [r.d] ++ (rs.map Rw.d ++ ds).drop (k + 1) = (rs ++ [r]).map Rw.d ++ ds.drop 1 := by
  subst hk
  have e : rs.length = (rs.map Rw.d).length := by simp
  rw [e, List.take_left, List.drop_append, List.drop_of_length_le (by omega), Nat.add_sub_cancel_left]
  simp
theorem ths_drop0 (l : List (List In)) (rest : List D) {k : Nat} (h : k < l.length) : ((thsC (l.drop k)).flatten ++ rest)[0]? = some (.list (insC (l.getD k []))) := by
  rw [List.drop_eq_getElem_cons h, List.getD_eq_getElem?_getD, List.getElem?_eq_getElem h]
  rfl
theorem ths_drop1 (l : List (List In)) (rest : List D) {k : Nat} (h : k < l.length) : ((thsC (l.drop k)).flatten ++ rest).drop 1 = (thsC (l.drop (k + 1))).flatten ++ rest := by
  rw [List.drop_eq_getElem_cons h]
  rfl
theorem ths_dropl (l : List (List In)) (rest : List D) (k : Nat) : ((thsC (l.drop k)).flatten ++ rest).length = l.length - k + rest.length := by
  rw [List.length_append, elems_all (thsC_all _), thsC_length, List.length_drop, Nat.mul_one]
theorem bks_snoc (rs : List Rw) (r : Rw) : bks (rs ++ [r]) = bks rs ++ r.b.toList := by
  unfold bks
  rw [List.filterMap_append]
  cases h : r.b <;> simp [h]
/-- One row more: empty, or in a new block. -/
theorem CpA.snoc0 {H K : Heap} {b : Nat} {ds : List D} {rs : List Rw} (h : CpA H K b ds rs) : CpA H (K.set b (.cells ((rs ++ [(⟨[], none⟩ : Rw)]).map Rw.d ++ ds.drop 1) 32)) b (ds.drop 1) (rs ++ [⟨[], none⟩]) := by
  have hn := h.nd
  rw [List.nodup_cons] at hn
  refine ⟨Heap.set_same _ _ _, fun r hr => ?_, ?_, ?_, ?_⟩
  · rcases List.mem_append.1 hr with hr | hr
    · exact Rw.at_set (h.rw r hr) fun y hy e => hn.1 (by rw [← e]; exact bks_mem hr hy)
    · rw [List.mem_singleton.1 hr]; rfl
  · rw [bks_snoc]; simpa [Rw.b] using h.nd
  · exact sub_outP h.sub (h.fr b (List.mem_cons_self ..))
  · rw [bks_snoc]; simpa [Rw.b] using h.fr
theorem CpA.snoc1 {H K : Heap} {b : Nat} {ds : List D} {rs : List Rw} (h : CpA H K b ds rs) {c : List In} {x : Nat × Nat × List D} (hx : K x.1 = none) (hc : c.length ≤ x.2.1) :
    CpA H ((K.set x.1 (.cells ((insC c).flatten ++ x.2.2) 34)).set b (.cells ((rs ++ [(⟨c, some x⟩ : Rw)]).map Rw.d ++ ds.drop 1) 32)) b (ds.drop 1) (rs ++ [⟨c, some x⟩]) := by
  have hn := h.nd
  rw [List.nodup_cons] at hn
  have hxb : x.1 ≠ b := fun e => by rw [e, h.hb] at hx; cases hx
  have hxr : x.1 ∉ bks rs := fun hm => by
    obtain ⟨r, hr, hb⟩ := List.mem_filterMap.1 hm
    have := h.rw r hr
    unfold Rw.at at this
    unfold Rw.b at hb
    cases ho : r.o with
    | none => rw [ho] at hb; cases hb
    | some y =>
      rw [ho] at hb this
      simp only [Option.map_some, Option.some.injEq] at hb this
      have h2 := this.2
      rw [hb, hx] at h2
      cases h2
  have hHx : H x.1 = none := by
    cases hh : H x.1 with
    | none => rfl
    | some r => rw [h.sub _ _ hh] at hx; cases hx
  refine ⟨Heap.set_same _ _ _, fun r hr => ?_, ?_, ?_, ?_⟩
  · rcases List.mem_append.1 hr with hr | hr
    · exact Rw.at_set (Rw.at_set (h.rw r hr) fun y hy e => hxr (by rw [← e]; exact bks_mem hr hy)) fun y hy e => hn.1 (by rw [← e]; exact bks_mem hr hy)
    · rw [List.mem_singleton.1 hr]
      exact ⟨hc, by rw [Heap.set_other _ _ hxb]; exact Heap.set_same _ _ _⟩
  · rw [bks_snoc]
    show (b :: (bks rs ++ [x.1])).Nodup
    rw [List.nodup_cons, List.nodup_append]
    refine ⟨fun hm => ?_, hn.2, by simp, fun a ha c hc e => ?_⟩
    · rcases List.mem_append.1 hm with hm | hm
      · exact hn.1 hm
      · exact hxb (List.mem_singleton.1 hm).symm
    · rw [List.mem_singleton.1 hc] at e
      exact hxr (e ▸ ha)
  · exact sub_outP (sub_outP h.sub hHx) (h.fr b (List.mem_cons_self ..))
  · rw [bks_snoc]
    intro q hq
    rcases List.mem_cons.1 hq with rfl | hq
    · exact h.fr _ (List.mem_cons_self ..)
    · rcases List.mem_append.1 hq with hq | hq
      · exact h.fr _ (List.mem_cons_of_mem _ hq)
      · have : q = x.1 := by simpa [Rw.b] using hq
        rw [this]; exact hHx
theorem CpA.out {H K : Heap} {b : Nat} {ds : List D} {rs : List Rw} (h : CpA H K b ds rs) {q : Nat} {y : Res} (hq : H q = some y) (z : Res) : CpA (H.set q z) (K.set q z) b ds rs := by
  have hnq : ∀ c ∈ b :: bks rs, c ≠ q := fun c hc e => by have := h.fr c hc; rw [e, hq] at this; cases this
  refine ⟨?_, fun r hr => Rw.at_set (h.rw r hr) fun y hy => hnq _ (List.mem_cons_of_mem _ (bks_mem hr hy)), h.nd, Heap.sub_congr h.sub, fun c hc => ?_⟩
  · rw [Heap.set_other _ _ (hnq b (List.mem_cons_self ..))]; exact h.hb
  · rw [Heap.set_other _ _ (hnq c hc)]; exact h.fr c hc
theorem CpA.less {H H0 K : Heap} {b : Nat} {ds : List D} {rs : List Rw} (h : CpA H K b ds rs) (hs : H0.sub H) : CpA H0 K b ds rs :=
  ⟨h.hb, h.rw, h.nd, hs.trans h.sub, fun q hq => by
    cases hx : H0 q with
    | none => rfl
    | some r => have := hs _ _ hx; rw [h.fr q hq] at this; cases this⟩

/-- A copy all of whose rows are ours. -/
def CopyQ (p : Pg) (H : Heap) (d : D) (H' : Heap) : Prop := (p.th = [] ∧ d = .agg (pgC p) ∧ H' = H) ∨
  (∃ b c rest rs, rs.map Rw.c = p.th ∧ p.th.length ≤ c ∧ d = .agg [.v (.int .i64 p.vs), .v (.int .i64 p.ms), .v (.slice (some ⟨b, 0, none⟩) p.th.length c)] ∧ CpA H H' b rest rs)

set_option maxHeartbeats 4000000 in
theorem copyQ_call (W : World) (H : Heap) (p : Pg) (hf : FewP p) :
    CallA Try.prog W 14 [.agg (pgC p)] H (CopyQ p H) := by
  refine call_in Try.func14 rfl Try.ntmps14 (by simp) ?_
  repeat' (first
    | (with_reducible apply run_seq)
    | ((with_reducible apply run_go); simp only [go_sem, *])
    | ((with_reducible apply runO_box); (focus (simp only [go_sem, *]; done)); intro pb hpb; have hfb := Heap.ne_of_none hpb; (try simp only [Heap.set_none'] at hpb); (with_reducible apply runO_go); simp only [go_sem, *])
    | ((with_reducible apply runO_alloc); (focus (simp only [go_sem, *]; rfl)); intro pb hpb; have hfb := Heap.ne_of_none hpb; (try simp only [Heap.set_none'] at hpb); (with_reducible apply runO_go); simp only [go_sem, *]))
  (with_reducible apply runO_callF known26); simp only [go_sem, *]
  rename_i p1 hp1 hf1
  generalize pb = p2 at *
  refine (cloneT_call W _ p.th (by have := hf.len; omega)).mono (fun d1 H1 hcl => ?_)
  rcases hcl with ⟨h0, rfl, rfl⟩ | ⟨h0, b, c, rest, hb, hcap, hrl, rfl, rfl⟩
  · (with_reducible apply runO_go); simp only [go_sem, *]
    repeat' (first
    | (with_reducible apply run_seq)
    | (with_reducible apply run_block)
    | ((with_reducible apply run_go); simp only [go_sem, *])
    | ((with_reducible apply runO_store); (focus (simp only [go_sem]; rfl)); (focus (simp only [go_sem, *]; rfl)); (focus (simp only [go_sem, *]; rfl)); (focus (simp only [go_sem, *]; done)); (focus (simp only [go_sem, *]; done)); (focus (simp only [go_sem, *]; done)); (with_reducible apply runO_go); simp only [go_sem, *, Heap.set_set]))
    refine run_loop1 ?_
    repeat' (first
    | (with_reducible apply run_seq)
    | (with_reducible apply run_exit rfl)
    | ((with_reducible apply run_go); simp only [go_sem, *])
    | ((with_reducible apply run_cond_f); (focus (simp only [go_sem, *]; done)))
    | ((with_reducible apply runO_store); (focus (simp only [go_sem]; rfl)); (focus (simp only [go_sem, *]; rfl)); (focus (simp only [go_sem, *]; rfl)); (focus (simp only [go_sem, *]; done)); (focus (simp only [go_sem, *]; done)); (focus (simp only [go_sem, *]; done)); (with_reducible apply runO_go); simp only [go_sem, *, Heap.set_set])
    | ((with_reducible apply run_ret Try.func14 res14 (H' := H)); (focus (simp only [go_sem, *]; rfl)); (focus trivial); (focus (repeat (first | assumption | exact Heap.sub_refl _ | refine Heap.sub_congr ?_ | refine Heap.sub_set ?_ (by assumption) | refine Heap.sub_set2 ?_ (by first | assumption | (simp only [*]; done) | (simp only [Heap.set_none', ne_eq, *, not_false_eq_true, and_self]; done)))))))
    refine .inl ⟨h0, ?_, rfl⟩
    unfold pgC
    rw [h0]
    rfl
  · clear hrl
    have hfc := Heap.ne_of_none hb
    (with_reducible apply runO_go); simp only [go_sem, *]
    repeat' (first
    | (with_reducible apply run_seq)
    | (with_reducible apply run_block)
    | ((with_reducible apply run_go); simp only [go_sem, *])
    | ((with_reducible apply runO_store); (focus (simp only [go_sem]; rfl)); (focus (simp only [go_sem, *]; rfl)); (focus (simp only [go_sem, *]; rfl)); (focus (simp only [go_sem, *]; done)); (focus (simp only [go_sem, *]; done)); (focus (simp only [go_sem, *]; done)); (with_reducible apply runO_go); simp only [go_sem, *, Heap.set_set]))
    simp only [Heap.set_none'] at hb
    obtain ⟨⟨hb2, hb2'⟩, ⟨hb1, hb1'⟩, hbH⟩ := hb
    have h20 := hf.len
    have HF : Hid (FewP p) := hf
    have hcp : CpA ((H.set p2 (.cells [D.v (.int .i64 0), D.v (.int .i64 0), D.nil] 24)).set p1 (.cells [.v (.int .i64 p.vs), .v (.int .i64 p.ms), .v (.slice (some ⟨b, 0, none⟩) p.th.length c)] 24))
        (((H.set b (.cells ((thsC p.th).flatten ++ rest) 32)).set p2 (.cells [D.v (.int .i64 0), D.v (.int .i64 0), D.nil] 24)).set p1 (.cells [.v (.int .i64 p.vs), .v (.int .i64 p.ms), .v (.slice (some ⟨b, 0, none⟩) p.th.length c)] 24)) b ((thsC (p.th.drop 0)).flatten ++ rest) [] := by
      refine ⟨?_, fun r hr => (by cases hr), by simp [bks], ?_, fun q hq => ?_⟩
      · rw [Heap.set_other _ _ hb1, Heap.set_other _ _ hb2, Heap.set_same]; rfl
      · exact Heap.sub_congr (Heap.sub_congr (sub_outP (Heap.sub_refl _) hbH))
      · obtain rfl : q = b := by simpa [bks] using hq
        rw [Heap.set_other _ _ hb1, Heap.set_other _ _ hb2]; exact hbH
    generalize hK1 : (H.set p2 (.cells [D.v (.int .i64 0), D.v (.int .i64 0), D.nil] 24)).set p1 (.cells [.v (.int .i64 p.vs), .v (.int .i64 p.ms), .v (.slice (some ⟨b, 0, none⟩) p.th.length c)] 24) = H1 at hcp
    have e1 : H1 p1 = some (.cells [.v (.int .i64 p.vs), .v (.int .i64 p.ms), .v (.slice (some ⟨b, 0, none⟩) p.th.length c)] 24) := by rw [← hK1]; exact Heap.set_same _ _ _
    have e2 : H1 p2 = some (.cells [D.v (.int .i64 0), D.v (.int .i64 0), D.nil] 24) := by rw [← hK1, Heap.set_other _ _ hpb.1.1]; exact Heap.set_same _ _ _
    have hHH : H.sub H1 := by
      rw [← hK1]
      intro q x hq
      rw [Heap.set_other _ _ (fun e => by rw [e, hp1] at hq; cases hq), Heap.set_other _ _ (fun e => by rw [e, hpb.2] at hq; cases hq)]
      exact hq
    have hp12 := hpb.1
    have q1 := hb1
    have q2 := hb1'
    have hp2 := hpb.2
    refine run_drop (H' := ((H.set b (.cells ((thsC p.th).flatten ++ rest) 32)).set p2 (.cells [D.v (.int .i64 0), D.v (.int .i64 0), D.nil] 24)).set p1 (.cells [.v (.int .i64 p.vs), .v (.int .i64 p.ms), .v (.slice (some ⟨b, 0, none⟩) p.th.length c)] 24)) (fun k r hk => ?_) ?_
    · simp only [Heap.set_at] at hk ⊢
      clear hK1 hf1 hfb hfc hf HF hcp e1 e2 hHH
      grind
    clear hK1 hf1 hfb hfc hf hpb hp1 hb1 hb1' hb2 hb2'
    generalize ((H.set b (.cells ((thsC p.th).flatten ++ rest) 32)).set p2 (.cells [D.v (.int .i64 0), D.v (.int .i64 0), D.nil] 24)).set p1 (.cells [.v (.int .i64 p.vs), .v (.int .i64 p.ms), .v (.slice (some ⟨b, 0, none⟩) p.th.length c)] 24) = K1 at *
    refine run_loop (fun na ea Ha => ∃ (k : Nat) (rs : List Rw), k ≤ p.th.length ∧ na = p.th.length - k ∧ (rs.map Rw.c = p.th.take k ∧ CpA H1 Ha b ((thsC (p.th.drop k)).flatten ++ rest) rs) ∧ ea 1 = .v (.pointer (some ⟨p1, 0, none⟩)) ∧ ea 2 = .v (.pointer (some ⟨p2, 0, none⟩)) ∧ ea 10 = .v (.slice (some ⟨b, 0, none⟩) p.th.length c) ∧ ea 11 = .v (.int .i64 (p.th.length : Int)) ∧ ea 12 = .v (.int .i64 (k : Int)) ∧ True) (p.th.length)
        ⟨0, [], Nat.zero_le _, rfl, ⟨rfl, hcp⟩, (by simp only [go_sem, *]), (by simp only [go_sem, *]), (by simp only [go_sem, *]), (by simp only [go_sem, *]), (by simp only [go_sem] <;> rfl), trivial⟩ ?_
    rintro na ea Ha ih ⟨k, rs, ak, rfl, va0, as1, as2, as10, as11, as12, -⟩
    have IHa : Hid _ := ih
    clear ih
    have Ia0 : Hid _ := va0
    clear va0
    obtain ⟨hrs, hca⟩ := Ia0.out
    have hkl : rs.length = min k p.th.length := by have := congrArg List.length hrs; simpa using this
    by_cases hlt : k < p.th.length
    · have hkk : k = rs.length := by omega
      have hw := wrap_succ (k := k) (by omega)
      have g1 := rowD_get rs _ k hkk (ths_drop0 p.th rest hlt)
      have g2 := fun r => rowD_put rs ((thsC (p.th.drop k)).flatten ++ rest) r k hkk
      rw [ths_drop1 p.th rest hlt] at g2
      have g4 : (rs.map Rw.d ++ ((thsC (p.th.drop k)).flatten ++ rest)).length = p.th.length + rest.length := by rw [List.length_append, ths_dropl, List.length_map]; omega
      have g5 : k < p.th.length + rest.length := by omega
      have g6 : k + 1 ≤ p.th.length + rest.length := by omega
      have c1 := fun H => cloneQ_call W H (p.th.getD k []) (by have := HF.out.get k; omega)
      have htk := take_succ_getD p.th k hlt
      have a1 := hca.hb
      have a2 := hca.sub _ _ e1
      have HT : Hid _ := htk
      have HC : Hid _ := hca
      have HR : Hid _ := hrs
      have HG : Hid _ := g2
      clear htk hca hrs hkl hkk g2
      repeat' (first
    | ((with_reducible apply run_drawGoQ (Cl.own [27] p1) [0, 1, 2, 3, 4, 5, 6] mixed); (focus kernel_rfl); simp only [go_sem, *])
    | (with_reducible apply run_seq)
    | (with_reducible apply run_block)
    | (with_reducible apply run_skip)
    | ((with_reducible apply run_go); simp only [go_sem, *])
    | ((with_reducible apply run_cond_t); (focus (simp only [go_sem, *]; done))))
      refine runD_callX known27 rfl ?_ (by simp only [go_sem, *]; exact c1 _) (fun d1 K2 hh => ?_)
      · intro d1 K2 hq
        refine Cl.own_fr fun r hr => ?_
        rcases hq with ⟨_, _, rfl⟩ | ⟨_, b1, _, _, hb1, _, _, rfl⟩
        · exact hr
        · rw [Heap.set_other _ _ (fun e => by rw [← e, hr] at hb1; cases hb1)]
          exact hr
      rcases hh with ⟨h0, rfl, hKK⟩ | ⟨h0, b1, cap1, rest1, hb1, hc1, rfl, rfl⟩
      · obtain rfl := hKK.symm
        (with_reducible apply runD_goC); simp only [go_sem, *]
        repeat' (first
    | (with_reducible apply run_inBlock)
    | ((with_reducible apply run_go); simp only [go_sem, *])
    | ((with_reducible apply runD_store); (focus (simp only [go_sem]; rfl)); (focus (simp only [go_sem, *]; rfl)); (focus (simp only [go_sem, *]; rfl)); (focus (simp only [go_sem, *]; done)); (focus (simp only [go_sem, *]; done)); (focus (simp only [go_sem, *]; done)); (focus (first | rfl | (simp only [go_sem, *]; done))); (with_reducible first | apply runD_go Cl.zero_plain | apply runD_goC); simp only [go_sem, *, Heap.set_set]))
        refine IHa.out (p.th.length - (k + 1)) _ _ (by omega) ⟨k + 1, rs ++ [⟨[], none⟩], by omega, rfl, ⟨by rw [List.map_append, HR.out, HT.out]; congr 1; show [([] : List In)] = [p.th.getD k []]; rw [h0], by have := HC.out.snoc0; rw [ths_drop1 p.th rest hlt, ← HG.out] at this; exact this⟩, (by simp only [go_sem, *]), (by simp only [go_sem, *]), (by simp only [go_sem, *]), (by simp only [go_sem, *]), (by simp only [go_sem, *]), trivial⟩
      · have hbb : b1 ≠ b := fun e => by rw [e, a1] at hb1; cases hb1
        have hbp : b1 ≠ p1 := fun e => by rw [e, a2] at hb1; cases hb1
        have hbb' := hbb.symm
        have hbp' := hbp.symm
        (with_reducible apply runD_goC); simp only [go_sem, *]
        repeat' (first
    | (with_reducible apply run_inBlock)
    | ((with_reducible apply run_go); simp only [go_sem, *])
    | ((with_reducible apply runD_store); (focus (simp only [go_sem]; rfl)); (focus (simp only [go_sem, *]; rfl)); (focus (simp only [go_sem, *]; rfl)); (focus (simp only [go_sem, *]; done)); (focus (simp only [go_sem, *]; done)); (focus (simp only [go_sem, *]; done)); (focus (first | rfl | (simp only [go_sem, *]; done))); (with_reducible first | apply runD_go Cl.zero_plain | apply runD_goC); simp only [go_sem, *, Heap.set_set]))
        refine IHa.out (p.th.length - (k + 1)) _ _ (by omega) ⟨k + 1, rs ++ [⟨p.th.getD k [], some (b1, cap1, rest1)⟩], by omega, rfl, ⟨by rw [List.map_append, HR.out, HT.out]; rfl, by have := HC.out.snoc1 (x := (b1, cap1, rest1)) hb1 hc1; rw [ths_drop1 p.th rest hlt, ← HG.out] at this; exact this⟩, (by simp only [go_sem, *]), (by simp only [go_sem, *]), (by simp only [go_sem, *]), (by simp only [go_sem, *]), (by simp only [go_sem, *]), trivial⟩
    · obtain rfl : k = p.th.length := by omega
      rw [List.drop_length] at hca
      rw [List.take_length] at hrs
      have a1 := hca.sub _ _ e1
      have a2 := hca.sub _ _ e2
      repeat' (first
    | (with_reducible apply run_seq)
    | (with_reducible apply run_exit rfl)
    | ((with_reducible apply run_go); simp only [go_sem, *])
    | ((with_reducible apply run_cond_f); (focus (simp only [go_sem, *]; done)))
    | ((with_reducible apply runO_store); (focus (simp only [go_sem]; rfl)); (focus (simp only [go_sem, *]; rfl)); (focus (simp only [go_sem, *]; rfl)); (focus (simp only [go_sem, *]; done)); (focus (simp only [go_sem, *]; done)); (focus (simp only [go_sem, *]; done)); (with_reducible apply runO_go); simp only [go_sem, *, Heap.set_set])
    | ((with_reducible apply run_ret Try.func14 res14 (H' := Ha.set p2 (.cells [.v (.int .i64 p.vs), .v (.int .i64 p.ms), .v (.slice (some ⟨b, 0, none⟩) p.th.length c)] 24))); (focus (simp only [go_sem, *]; rfl)); (focus trivial); (focus (repeat (first | assumption | exact Heap.sub_refl _ | refine Heap.sub_congr ?_ | refine Heap.sub_set ?_ (by assumption) | refine Heap.sub_set2 ?_ (by first | assumption | (simp only [*]; done) | (simp only [Heap.set_none', ne_eq, *, not_false_eq_true, and_self]; done)))))))
      exact .inr ⟨b, c, rest, rs, hrs, hcap, rfl, (hca.out e2 _).less (sub_outP hHH hp2)⟩

/-- A copy, as it is read. -/
theorem CpA.view {H K : Heap} {b c n : Nat} {ds : List D} {rs : List Rw} (h : CpA H K b ds rs) {l : List (List In)} (hl : rs.map Rw.c = l) (hn : l.length = n) (hc : n ≤ c) : View K (.v (.slice (some ⟨b, 0, none⟩) n c)) (.list (thsC l)) := by
  subst hl
  have hf : (rs.map fun r => [r.d]).flatten = rs.map Rw.d := by
    clear h hn hc
    induction rs with
    | nil => rfl
    | cons r rs ih => simp [ih]
  have hf2 : (thsC (rs.map Rw.c)).flatten = rs.map fun r => D.list (insC r.c) := by
    clear h hn hc hf
    induction rs with
    | nil => rfl
    | cons r rs ih => simpa [thsC] using ih
  refine View.row (xs := rs.map fun r => [r.d]) (rest := ds) (sz := 1) (by rw [hf]; exact h.hb) (by rw [thsC_length]; exact hn) hc (thsC_all _) ?_
  rw [hf, hf2]
  have hr := h.rw
  clear h hn hc hf hf2
  induction rs with
  | nil => exact ViewL.nil
  | cons r rs ih =>
    refine ViewL.cons ?_ (ih fun x hx => hr x (List.mem_cons_of_mem _ hx))
    have := hr r (List.mem_cons_self ..)
    unfold Rw.at at this
    unfold Rw.d
    cases ho : r.o with
    | none =>
      rw [ho] at this
      simp only at this ⊢
      rw [this]
      exact View.refl _
    | some x =>
      rw [ho] at this
      exact View.row (xs := insC r.c) (rest := x.2.2) this.2 (insC_length _) this.1 (insC_all _) (ViewL.refl _)
end Go.Proofs.Ytkoechchjiddhaa
