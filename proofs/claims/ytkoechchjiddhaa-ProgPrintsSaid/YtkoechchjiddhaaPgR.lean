/-
  Contracts: the law of programs printed, of copies that are written.
-/
import Derived.Test.YtkoechchjiddhaaPgQ
import Derived.Test.YtkoechchjiddhaaPgM
set_option linter.unusedSimpArgs false
set_option linter.unusedVariables false
namespace Go.Proofs.Ytkoechchjiddhaa
open Go Go.Sn Go.RowKit

theorem CpA.ne {H K : Heap} {b : Nat} {ds : List D} {rs : List Rw} (h : CpA H K b ds rs) {q : Nat} (hq : K q = none ∨ ∃ r, H q = some r) : ∀ c ∈ b :: bks rs, c ≠ q := fun c hc e => by
  subst e
  rcases hq with hq | ⟨r, hr⟩
  · rcases List.mem_cons.1 hc with rfl | hc
    · rw [h.hb] at hq; cases hq
    · obtain ⟨r, hr, hb⟩ := List.mem_filterMap.1 hc
      have := h.rw r hr
      unfold Rw.at at this
      unfold Rw.b at hb
      cases ho : r.o with
      | none => rw [ho] at hb; cases hb
      | some y =>
        rw [ho] at hb this
        simp only [Option.map_some, Option.some.injEq] at hb this
        have h2 := this.2
        rw [hb, hq] at h2
        cases h2
  · have := h.fr c hc; rw [hr] at this; cases this
theorem CpA.fresh {H K : Heap} {b : Nat} {ds : List D} {rs : List Rw} (h : CpA H K b ds rs) {q : Nat} (hq : K q = none) (z : Res) : CpA (H.set q z) (K.set q z) b ds rs := by
  have hnq := h.ne (.inl hq)
  refine ⟨?_, fun r hr => Rw.at_set (h.rw r hr) fun y hy => hnq _ (List.mem_cons_of_mem _ (bks_mem hr hy)), h.nd, Heap.sub_congr h.sub, fun c hc => ?_⟩
  · rw [Heap.set_other _ _ (hnq b (List.mem_cons_self ..))]; exact h.hb
  · rw [Heap.set_other _ _ (hnq c hc)]; exact h.fr c hc
theorem bks_set {rs : List Rw} {k : Nat} (hk : k < rs.length) {r : Rw} (h : r.o = (rs.getD k default).o) : bks (rs.set k r) = bks rs := by
  unfold bks
  rw [List.getD_eq_getElem?_getD, List.getElem?_eq_getElem hk] at h
  have hb : r.b = rs[k].b := by unfold Rw.b; rw [h]; rfl
  have e : rs = rs.take k ++ rs[k] :: rs.drop (k + 1) := by rw [← List.drop_eq_getElem_cons hk, List.take_append_drop]
  rw [List.set_eq_take_append_cons_drop, if_pos hk]
  conv => rhs; rw [e]
  simp only [List.filterMap_append, List.filterMap_cons, hb]
theorem fm_inj {α β : Type} {f : α → Option β} : ∀ {l : List α}, (l.filterMap f).Nodup → ∀ {i j : Nat} (hi : i < l.length) (hj : j < l.length) {q : β}, f l[i] = some q → f l[j] = some q → i = j
  | [], _, i, _, hi, _, _, _, _ => absurd hi (by simp)
  | a :: l, h, 0, 0, _, _, _, _, _ => rfl
  | a :: l, h, 0, j + 1, _, hj, q, e1, e2 => by
    simp only [List.getElem_cons_zero, List.getElem_cons_succ] at e1 e2
    rw [List.filterMap_cons, e1, List.nodup_cons] at h
    exact absurd (List.mem_filterMap.2 ⟨_, List.getElem_mem _, e2⟩) h.1
  | a :: l, h, i + 1, 0, hi, _, q, e1, e2 => by
    simp only [List.getElem_cons_zero, List.getElem_cons_succ] at e1 e2
    rw [List.filterMap_cons, e2, List.nodup_cons] at h
    exact absurd (List.mem_filterMap.2 ⟨_, List.getElem_mem _, e1⟩) h.1
  | a :: l, h, i + 1, j + 1, hi, hj, q, e1, e2 => by
    simp only [List.getElem_cons_succ] at e1 e2
    have h2 : (l.filterMap f).Nodup := by
      rw [List.filterMap_cons] at h
      split at h
      · exact h
      · exact (List.nodup_cons.1 h).2
    rw [fm_inj h2 (by simpa using hi) (by simpa using hj) e1 e2]
/-- A row of ours is written. -/
theorem CpA.turn {H K : Heap} {b : Nat} {ds : List D} {rs : List Rw} (h : CpA H K b ds rs) {k : Nat} (hk : k < rs.length) {x : Nat × Nat × List D} (hx : (rs.getD k default).o = some x) {c : List In} (hc : c.length = (rs.getD k default).c.length) :
    CpA H (K.set x.1 (.cells ((insC c).flatten ++ x.2.2) 34)) b ds (rs.set k ⟨c, some x⟩) := by
  have hg : rs.getD k default = rs[k] := by rw [List.getD_eq_getElem?_getD, List.getElem?_eq_getElem hk]; rfl
  have hm : rs[k] ∈ rs := List.getElem_mem hk
  rw [hg] at hx hc
  have hn := h.nd
  rw [List.nodup_cons] at hn
  have hxb : x.1 ∈ bks rs := bks_mem hm hx
  have hxn : b ≠ x.1 := fun e => hn.1 (e ▸ hxb)
  have hb := bks_set (rs := rs) hk (r := ⟨c, some x⟩) (by rw [hg, hx])
  have hat := h.rw _ hm
  unfold Rw.at at hat
  rw [hx] at hat
  refine ⟨?_, fun r hr => ?_, by rw [hb]; exact h.nd, sub_outP h.sub (h.fr _ (List.mem_cons_of_mem _ hxb)), by rw [hb]; exact h.fr⟩
  · rw [Heap.set_other _ _ hxn, h.hb]
    congr 3
    rw [List.map_set]
    refine (@List.set_getElem_self D (rs.map Rw.d) k (by simpa using hk)).symm.trans ?_
    congr 1
    rw [List.getElem_map]
    unfold Rw.d
    rw [hx, hc]
  · obtain ⟨j, hj, rfl⟩ := List.getElem_of_mem hr
    by_cases e : k = j
    · subst e
      rw [List.getElem_set_self]
      exact ⟨by rw [hc]; exact hat.1, Heap.set_same _ _ _⟩
    · rw [List.length_set] at hj
      rw [List.getElem_set_ne e]
      exact Rw.at_set (h.rw _ (List.getElem_mem hj)) fun y hy e2 => e (fm_inj hn.2 hk hj (q := x.1) (by unfold Rw.b; rw [hx]; rfl) (by unfold Rw.b; rw [hy, ← e2]; rfl))

theorem getD_mem {l : List Rw} {k : Nat} (h : k < l.length) : l.getD k default ∈ l := by
  rw [List.getD_eq_getElem?_getD, List.getElem?_eq_getElem h]
  exact List.getElem_mem h
theorem rowD_at (rs : List Rw) (ds : List D) {k : Nat} (hk : k < rs.length) : (rs.map Rw.d ++ ds).getD k default = (rs.getD k default).d := by
  rw [List.getD_eq_getElem?_getD, List.getElem?_append_left (by simpa using hk), List.getElem?_map, List.getD_eq_getElem?_getD, List.getElem?_eq_getElem hk]
  rfl
theorem Rw.d_none {r : Rw} (h : r.o = none) : r.d = .list [] := by unfold Rw.d; rw [h]
theorem Rw.d_some {r : Rw} {x : Nat × Nat × List D} (h : r.o = some x) : r.d = .v (.slice (some ⟨x.1, 0, none⟩) r.c.length x.2.1) := by unfold Rw.d; rw [h]
theorem ins_get : ∀ (cc : List In) (r : List D) (j : Nat), j < cc.length → ((insC cc).flatten ++ r).getD (j * 4 + 3) default = .v (.int .i64 (cc.getD j default).n)
  | [], _, j, h => absurd h (by simp)
  | i :: cc, r, 0, _ => rfl
  | i :: cc, r, j + 1, h => by
    have e : (j + 1) * 4 + 3 = j * 4 + 3 + 4 := by omega
    rw [e]
    exact ins_get cc r j (by simpa using h)
theorem ins_put : ∀ (cc : List In) (r : List D) (j : Nat) (w : Int), j < cc.length → ((insC cc).flatten ++ r).take (j * 4 + 3) ++ [.v (.int .i64 w)] ++ ((insC cc).flatten ++ r).drop (j * 4 + 3 + 1) = (insC (cc.set j { cc.getD j default with n := w })).flatten ++ r
  | [], _, j, _, h => absurd h (by simp)
  | i :: cc, r, 0, _, _ => rfl
  | i :: cc, r, j + 1, w, h => by
    have e : (j + 1) * 4 + 3 = j * 4 + 3 + 4 := by omega
    rw [e]
    have ih := ins_put cc r j w (by simpa using h)
    show _ :: _ :: _ :: _ :: (((insC cc).flatten ++ r).take (j * 4 + 3) ++ [.v (.int .i64 w)] ++ ((insC cc).flatten ++ r).drop (j * 4 + 3 + 1)) = _ :: _ :: _ :: _ :: ((insC (cc.set j { cc.getD j default with n := w })).flatten ++ r)
    rw [ih]
theorem prints_end {p : Pg} {ok : Bool} {S : List UInt8} {eN : Int} (hF : ok = false → S = [] ∧ eN = 1) (hT : ok = true → S = bsP p ∧ rdP S = (0, p)) :
    D.v (.bool (!ok && decide (S = []) && decide (eN = 1) || ok && decide (S = bsP p) && decide ((rdP S).1 = 0) && decide (p = (rdP S).2))) = .v (.bool true) := by
  cases ok with
  | false => obtain ⟨h1, h2⟩ := hF rfl; simp [h1, h2]
  | true =>
    obtain ⟨h1, h2⟩ := hT rfl
    rw [h2, decide_eq_true h1]
    simp
set_option maxHeartbeats 8000000 in
theorem prints_mid (W : World) (H : Heap) (p : Pg) (F : FewP p) (ok : Bool) (S : List UInt8) (eN : Int) (hS : S.length ≤ 1000000) (h0 : p.th = [] → ok = false) (hE : decide (eN = 0) = ok) (hF : ok = false → S = [] ∧ eN = 1) (hT : ok = true → S = bsP p ∧ rdP S = (0, p))
    (c1 : ∀ H, CallA Try.prog W 10 [.agg (pgC p)] H fun r H' => r = .v (.bool true) ∧ H' = H)
    (c2 : ∀ H, CallA Try.prog W 12 [.agg (pgC p)] H fun r H' => r = .v (.bool ok) ∧ H' = H)
    (c4 : ∀ H, CallA Try.prog W 11 [.agg (pgC p)] H fun r H' => r = .tup [.v (.string (strL S)), .v (.int .i64 eN)] ∧ H' = H)
    (c5 : ∀ H, CallA Try.prog W 13 [.agg (pgC p)] H fun r H' => r = .v (.bool ok) ∧ H' = H) :
    CallA Try.prog W 3 [.agg (pgC p)] H fun r H' => r = .v (.bool true) := by
  refine call_in Try.func3 rfl Try.ntmps3 (by simp) ?_
  have c0 := fun H => awake1_call W H
  have c3 := fun H => copyQ_call W H p F
  have c6 := fun H => readP_call W H S hS
  have c7 := fun H => printPR_call W H p F
  have c8 := fun W => sameP1_call W (fun _ => none) p p F.sm F.sm
  have c9 := fun W => sameR1_call W (fun _ => none) p p F.sm F.sm
  have cz := fun H => sameR1_call W H p (rdP S).2 F.sm (rdP_few S).sm
  rw [str_bsP] at c7
  have hx : ∀ T : List UInt8, decide (strL S = strL T) = decide (S = T) := fun T => strL_dec S T
  have hx0 : decide (strL S = ⟨#[]⟩) = decide (S = []) := strL_dec S []
  have HF1 : Hid _ := hF
  have HT1 : Hid _ := hT
  have H01 : Hid _ := h0
  have HF : Hid _ := F
  clear hF hT h0 F
  have hoo : decide (ok = ok) = true := decide_eq_true rfl
  repeat' (first
    | (with_reducible apply run_seq)
    | (with_reducible apply run_skip)
    | ((with_reducible apply run_go); simp only [go_sem, *])
    | ((with_reducible apply run_cond_f); (focus (simp only [go_sem, *]; done)))
    | ((with_reducible apply runO_box); (focus (simp only [go_sem, *]; done)); intro pb hpb; have hfb := Heap.ne_of_none hpb; (try simp only [Heap.set_none'] at hpb); (with_reducible apply runO_go); simp only [go_sem, *])
    | ((with_reducible apply runO_callF known9); simp only [go_sem, *]; refine (c0 _).use ?_; (with_reducible apply runO_go); simp only [go_sem, *])
    | ((with_reducible apply runO_callFG known10); (focus (simp only [go_sem, *]; rfl)); (focus (intro _; simp only [go_sem, *]; exact c1 _)); (with_reducible apply runO_go); simp only [go_sem, *])
    | ((with_reducible apply runO_callF known11); simp only [go_sem, *]; refine (c4 _).use ?_; (with_reducible apply runO_go); simp only [go_sem, *])
    | ((with_reducible apply runO_callF known12); simp only [go_sem, *]; refine (c2 _).use ?_; (with_reducible apply runO_go); simp only [go_sem, *])
    | ((with_reducible apply runO_callF known13); simp only [go_sem, *]; refine (c5 _).use ?_; (with_reducible apply runO_go); simp only [go_sem, *]))
  have hp1 := hpb
  have hf1 := hfb
  clear hpb hfb
  generalize pb = p1 at *
  (with_reducible apply runO_callF known14); simp only [go_sem, *]
  refine (c3 _).mono (fun d1 H1 hcl => ?_)
  clear c3
  rcases hcl with ⟨h0, rfl, rfl⟩ | ⟨b, c, rest, rs, hrs, hcap, rfl, hcp⟩
  · (with_reducible apply runO_go); simp only [go_sem, *]
    have hz : p.th.length = 0 := by rw [h0]; rfl
    have c8 := fun H => sameP1_call W H p p HF.out.sm HF.out.sm
    have c9 := fun H => sameR1_call W H p p HF.out.sm HF.out.sm
    repeat' (first
    | (with_reducible apply run_seq)
    | (with_reducible apply run_block)
    | (with_reducible apply run_skip)
    | ((with_reducible apply run_go); simp only [go_sem, *])
    | ((with_reducible apply run_cond_f); (focus (simp only [go_sem, *]; done)))
    | ((with_reducible apply runO_alloc); (focus (simp only [go_sem, *]; rfl)); intro pb hpb; have hfb := Heap.ne_of_none hpb; (try simp only [Heap.set_none'] at hpb); (with_reducible apply runO_go); simp only [go_sem, *])
    | ((with_reducible apply runO_store); (focus (simp only [go_sem]; rfl)); (focus (simp only [go_sem, *]; rfl)); (focus (simp only [go_sem, *]; rfl)); (focus (simp only [go_sem, *]; done)); (focus (simp only [go_sem, *]; done)); (focus (simp only [go_sem, *]; done)); (with_reducible apply runO_go); simp only [go_sem, *, Heap.set_set])
    | ((with_reducible apply runO_callF known15); simp only [go_sem, *]; refine (c8 _).use ?_; (with_reducible apply runO_go); simp only [go_sem, *])
    | ((with_reducible apply runO_callFG known16); (focus (simp only [go_sem, *]; rfl)); (focus (intro _; simp only [go_sem, *]; exact c9 _)); (with_reducible apply runO_go); simp only [go_sem, *]))
    refine run_loop1 ?_
    repeat' (first
    | (with_reducible apply run_seq)
    | (with_reducible apply run_exit rfl)
    | ((with_reducible apply run_go); simp only [go_sem, *])
    | ((with_reducible apply run_cond_f); (focus (simp only [go_sem, *]; done)))
    | ((with_reducible apply runO_alloc); (focus (simp only [go_sem, *]; rfl)); intro pb hpb; have hfb := Heap.ne_of_none hpb; (try simp only [Heap.set_none'] at hpb); (with_reducible apply runO_go); simp only [go_sem, *])
    | ((with_reducible apply runO_store); (focus (simp only [go_sem]; rfl)); (focus (simp only [go_sem, *]; rfl)); (focus (simp only [go_sem, *]; rfl)); (focus (simp only [go_sem, *]; done)); (focus (simp only [go_sem, *]; done)); (focus (simp only [go_sem, *]; done)); (with_reducible apply runO_go); simp only [go_sem, *, Heap.set_set])
    | ((with_reducible apply runO_callF known17); simp only [go_sem, *]; refine (c6 _).use ?_; (with_reducible apply runO_go); simp only [go_sem, *])
    | ((with_reducible apply runO_callFG known18); (focus (simp only [go_sem, *]; rfl)); (focus (intro _; simp only [go_sem, *]; exact c7 _)); (with_reducible apply runO_go); simp only [go_sem, *])
    | ((with_reducible apply runO_callFG known16); (focus (simp only [go_sem, *]; rfl)); (focus (intro _; simp only [go_sem, *]; exact cz _)); (with_reducible apply runO_go); simp only [go_sem, *])
    | ((with_reducible apply run_ret Try.func3 res3 (H' := H)); (focus (simp only [go_sem, *]; rfl)); (focus trivial); (focus (repeat (first | assumption | exact Heap.sub_refl _ | refine Heap.sub_congr ?_ | refine Heap.sub_set ?_ (by assumption) | refine Heap.sub_set2 ?_ (by first | assumption | (simp only [*]; done) | (simp only [Heap.set_none', ne_eq, *, not_false_eq_true, and_self]; done)))))))
    exact prints_end HF1.out HT1.out
  · (with_reducible apply runO_go); simp only [go_sem, *]
    have hn20 : p.th.length ≤ 20 := HF.out.len
    have hrl : rs.length = p.th.length := by have := congrArg List.length hrs; simpa using this
    have a1 := hcp.sub _ _ (Heap.set_same _ _ _)
    repeat' (first
    | (with_reducible apply run_seq)
    | ((with_reducible apply run_go); simp only [go_sem, *])
    | ((with_reducible apply runO_alloc); (focus (simp only [go_sem, *]; rfl)); intro pb hpb; have hfb := Heap.ne_of_none hpb; (try simp only [Heap.set_none'] at hpb); (with_reducible apply runO_go); simp only [go_sem, *])
    | ((with_reducible apply runO_store); (focus (simp only [go_sem]; rfl)); (focus (simp only [go_sem, *]; rfl)); (focus (simp only [go_sem, *]; rfl)); (focus (simp only [go_sem, *]; done)); (focus (simp only [go_sem, *]; done)); (focus (simp only [go_sem, *]; done)); (with_reducible apply runO_go); simp only [go_sem, *, Heap.set_set]))
    generalize pb = p2 at *
    have hcp2 := hcp.fresh hpb (.cells [.v (.int .i64 p.vs), .v (.int .i64 p.ms), .v (.slice (some ⟨b, 0, none⟩) p.th.length c)] 24)
    have hv : ViewL (H1.set p2 (.cells [.v (.int .i64 p.vs), .v (.int .i64 p.ms), .v (.slice (some ⟨b, 0, none⟩) p.th.length c)] 24)) [.agg [.v (.int .i64 p.vs), .v (.int .i64 p.ms), .v (.slice (some ⟨b, 0, none⟩) p.th.length c)], .agg (pgC p)] [.agg (pgC p), .agg (pgC p)] :=
      ViewL.cons (View.agg (ViewL.cons (View.refl _) (ViewL.cons (View.refl _) (ViewL.cons (hcp2.view hrs rfl hcap) ViewL.nil)))) (ViewL.cons (View.refl _) ViewL.nil)
    have d8 := CallA.borrow (W := W) (fun W' => (c8 W').mono fun d H' h => h.1) hv (Pl.v _)
    have d9 := CallA.borrow (W := W) (fun W' => (c9 W').mono fun d H' h => h.1) hv (Pl.v _)
    clear c8 c9
    simp only [decide_true] at d8 d9
    have hp12 : p1 ≠ p2 := fun e => by rw [e, hpb] at a1; cases a1
    have a2 : (H1.set p2 (.cells [.v (.int .i64 p.vs), .v (.int .i64 p.ms), .v (.slice (some ⟨b, 0, none⟩) p.th.length c)] 24)) p1 = some (.cells (pgC p) 24) := by rw [Heap.set_other _ _ hp12]; exact a1
    have a3 := Heap.set_same H1 p2 (.cells [.v (.int .i64 p.vs), .v (.int .i64 p.ms), .v (.slice (some ⟨b, 0, none⟩) p.th.length c)] 24)
    have b2 : ((H.set p1 (.cells (pgC p) 24)).set p2 (.cells [.v (.int .i64 p.vs), .v (.int .i64 p.ms), .v (.slice (some ⟨b, 0, none⟩) p.th.length c)] 24)) p1 = some (.cells (pgC p) 24) := by rw [Heap.set_other _ _ hp12]; exact Heap.set_same _ _ _
    have b3 := Heap.set_same (H.set p1 (.cells (pgC p) 24)) p2 (.cells [.v (.int .i64 p.vs), .v (.int .i64 p.ms), .v (.slice (some ⟨b, 0, none⟩) p.th.length c)] 24)
    have hp2 : H p2 = none := by
      cases hh : H p2 with
      | none => rfl
      | some r => have := hcp.sub p2 r (by rw [Heap.set_other _ _ hp12.symm]; exact hh); rw [hpb] at this; cases this
    have hHK : H.sub ((H.set p1 (.cells (pgC p) 24)).set p2 (.cells [.v (.int .i64 p.vs), .v (.int .i64 p.ms), .v (.slice (some ⟨b, 0, none⟩) p.th.length c)] 24)) := fun q x hq => by
      rw [Heap.set_other _ _ (fun e => by rw [e, hp2] at hq; cases hq), Heap.set_other _ _ (fun e => by rw [e, hp1] at hq; cases hq)]
      exact hq
    generalize H1.set p2 (.cells [.v (.int .i64 p.vs), .v (.int .i64 p.ms), .v (.slice (some ⟨b, 0, none⟩) p.th.length c)] 24) = K1 at *
    generalize (H.set p1 (.cells (pgC p) 24)).set p2 (.cells [.v (.int .i64 p.vs), .v (.int .i64 p.ms), .v (.slice (some ⟨b, 0, none⟩) p.th.length c)] 24) = K0 at *
    clear hcp a1 hpb hfb hv hf1 hp1
    repeat' (first
    | (with_reducible apply run_seq)
    | (with_reducible apply run_block)
    | (with_reducible apply run_skip)
    | ((with_reducible apply run_go); simp only [go_sem, *])
    | ((with_reducible apply run_cond_f); (focus (simp only [go_sem, *]; done)))
    | ((with_reducible apply runO_callF known15); simp only [go_sem, *]; refine (d8).use ?_; (with_reducible apply runO_go); simp only [go_sem, *])
    | ((with_reducible apply runO_callFG known16); (focus (simp only [go_sem, *]; rfl)); (focus (intro _; simp only [go_sem, *]; exact d9)); (with_reducible apply runO_go); simp only [go_sem, *]))
    have h50 : ∀ r ∈ rs, r.c.length ≤ 50 := fun r hr => HF.out.code _ (by rw [← hrs]; exact List.mem_map.2 ⟨r, hr, rfl⟩)
    clear d8 d9 hrs
    generalize p.th.length = n at *
    refine run_loop (fun na ea Ha => ∃ (k : Nat) (rs : List Rw), k ≤ n ∧ na = n - k ∧ (rs.length = n ∧ CpA K0 Ha b rest rs ∧ (∀ r ∈ rs, r.c.length ≤ 50)) ∧ ea 1 = .v (.pointer (some ⟨p1, 0, none⟩)) ∧ ea 3 = .v (.string (strL S)) ∧ ea 4 = .v (.int .i64 eN) ∧ ea 5 = .v (.bool ok) ∧ ea 6 = .v (.pointer (some ⟨p2, 0, none⟩)) ∧ ea 50 = .v (.int .i64 (n : Int)) ∧ ea 51 = .v (.int .i64 (k : Int)) ∧ True) (n)
        ⟨0, rs, Nat.zero_le _, rfl, ⟨hrl, hcp2, h50⟩, (by simp only [go_sem, *]), (by simp only [go_sem, *]), (by simp only [go_sem, *]), (by simp only [go_sem, *]), (by simp only [go_sem, *]), (by simp only [go_sem, *]), (by simp only [go_sem] <;> rfl), trivial⟩ ?_
    rintro na ea Ha ih ⟨k, rs, ak, rfl, va0, as1, as3, as4, as5, as6, as50, as51, -⟩
    have IHa : Hid _ := ih
    clear ih
    have Ia0 : Hid _ := va0
    clear va0
    obtain ⟨hrl, hca, h50⟩ := Ia0.out
    have a2 := hca.sub _ _ b2
    have a3 := hca.sub _ _ b3
    have a4 := hca.hb
    have hsub := hHK.trans hca.sub
    by_cases hlt : k < n
    · have hw := wrap_succ (k := k) (by omega)
      have hkl : k < rs.length := by omega
      have g1 := rowD_at rs rest hkl
      have g4 : (rs.map Rw.d ++ rest).length = n + rest.length := by rw [List.length_append, List.length_map, hrl]
      have g5 : k < n + rest.length := by omega
      have HC : Hid _ := hca
      have HL : Hid _ := hrl
      have H50 : Hid _ := h50
      have m50 := h50 _ (getD_mem hkl)
      have hat : (rs.getD k default).at Ha := hca.rw _ (getD_mem hkl)
      unfold Rw.at at hat
      clear hca hrl hkl h50
      cases ho : (rs.getD k default).o with
      | none =>
        rw [Rw.d_none ho] at g1
        clear hat
        repeat' (first
    | (with_reducible apply run_seq)
    | (with_reducible apply run_block)
    | (with_reducible apply run_skip)
    | ((with_reducible apply run_go); simp only [go_sem, *])
    | ((with_reducible apply run_cond_t); (focus (simp only [go_sem, *]; done))))
        refine run_loop1 ?_
        repeat' (first
    | (with_reducible apply run_seq)
    | (with_reducible apply run_inBlock)
    | (with_reducible apply run_exit rfl)
    | ((with_reducible apply run_go); simp only [go_sem, *])
    | ((with_reducible apply run_cond_f); (focus (simp only [go_sem, *]; done))))
        refine IHa.out (n - (k + 1)) _ _ (by omega) ⟨k + 1, rs, by omega, rfl, ⟨HL.out, HC.out, H50.out⟩, (by simp only [go_sem, *]), (by simp only [go_sem, *]), (by simp only [go_sem, *]), (by simp only [go_sem, *]), (by simp only [go_sem, *]), (by simp only [go_sem, *]), (by simp only [go_sem, *]), trivial⟩
      | some x =>
        obtain ⟨bi, cap, r2⟩ := x
        rw [ho] at hat
        rw [Rw.d_some ho] at g1
        simp only at g1 hat
        have HO : Hid _ := ho
        clear ho
        generalize hm : (rs.getD k default).c.length = m at *
        repeat' (first
    | (with_reducible apply run_seq)
    | (with_reducible apply run_block)
    | (with_reducible apply run_skip)
    | ((with_reducible apply run_go); simp only [go_sem, *])
    | ((with_reducible apply run_cond_t); (focus (simp only [go_sem, *]; done))))
        refine run_loop (fun nb eb Hb => ∃ (j : Nat) (ss : List Rw), j ≤ m ∧ nb = m - j ∧ (ss.length = n ∧ CpA K0 Hb b rest ss ∧ (ss.getD k default).o = some (bi, cap, r2) ∧ (ss.getD k default).c.length = m ∧ (∀ r ∈ ss, r.c.length ≤ 50)) ∧ eb 1 = .v (.pointer (some ⟨p1, 0, none⟩)) ∧ eb 3 = .v (.string (strL S)) ∧ eb 4 = .v (.int .i64 eN) ∧ eb 5 = .v (.bool ok) ∧ eb 6 = .v (.pointer (some ⟨p2, 0, none⟩)) ∧ eb 7 = .v (.int .i64 (k : Int)) ∧ eb 50 = .v (.int .i64 (n : Int)) ∧ eb 51 = .v (.int .i64 (k : Int)) ∧ eb 59 = .v (.int .i64 (m : Int)) ∧ eb 60 = .v (.int .i64 (j : Int)) ∧ True) (m)
            ⟨0, rs, Nat.zero_le _, rfl, ⟨HL.out, HC.out, HO.out, hm, H50.out⟩, (by simp only [go_sem, *]), (by simp only [go_sem, *]), (by simp only [go_sem, *]), (by simp only [go_sem, *]), (by simp only [go_sem, *]), (by simp only [go_sem, *]), (by simp only [go_sem, *]), (by simp only [go_sem, *]), (by simp only [go_sem, *]), (by simp only [go_sem] <;> rfl), trivial⟩ ?_
        rintro nb eb Hb ih ⟨j, ss, bk, rfl, vb0, bs1, bs3, bs4, bs5, bs6, bs7, bs50, bs51, bs59, bs60, -⟩
        have IHb : Hid _ := ih
        clear ih
        have Ib0 : Hid _ := vb0
        clear vb0
        obtain ⟨hsl, hcb, hso, hsm, hs50⟩ := Ib0.out
        clear g1 a2 a3 a4 hat g4
        have a2 := hcb.sub _ _ b2
        have a3 := hcb.sub _ _ b3
        have a4 := hcb.hb
        have hkl : k < ss.length := by omega
        have g1 := rowD_at ss rest hkl
        have g4 : (ss.map Rw.d ++ rest).length = n + rest.length := by rw [List.length_append, List.length_map, hsl]
        have hat : (ss.getD k default).at Hb := hcb.rw _ (getD_mem hkl)
        unfold Rw.at at hat
        rw [hso] at hat
        rw [Rw.d_some hso] at g1
        simp only at g1 hat
        rw [hsm] at g1 hat
        have hat2 := hat.2
        by_cases hjt : j < m
        · have hwj := wrap_succ (k := j) (by omega)
          have HB : Hid _ := hcb
          have HS : Hid _ := hsl
          have HSO : Hid _ := hso
          have HSM : Hid _ := hsm
          have HK : Hid _ := hkl
          have HS50 : Hid _ := hs50
          clear hcb hsl hso hkl hs50
          generalize hcc : (ss.getD k default).c = cc at *
          have x1 := ins_get cc r2 j (by omega)
          have x2 := fun w => ins_put cc r2 j w (by omega)
          have x3 : ((insC cc).flatten ++ r2).length = m * 4 + r2.length := by rw [List.length_append, elems_all (insC_all _), insC_length, hsm]
          have x4 : j * 4 + 3 < m * 4 + r2.length := by omega
          have x5 : j * 4 + 3 + 1 ≤ m * 4 + r2.length := by omega
          have HCC : Hid _ := hcc
          clear hsm hcc
          repeat' (first
    | (with_reducible apply run_seq)
    | (with_reducible apply run_block)
    | (with_reducible apply run_inBlock)
    | (with_reducible apply run_skip)
    | ((with_reducible apply run_go); simp only [go_sem, *])
    | ((with_reducible apply run_cond_t); (focus (simp only [go_sem, *]; done)))
    | ((with_reducible apply runO_store); (focus (simp only [go_sem]; rfl)); (focus (simp only [go_sem, *]; rfl)); (focus (simp only [go_sem, *]; rfl)); (focus (simp only [go_sem, *]; done)); (focus (simp only [go_sem, *]; done)); (focus (simp only [go_sem, *]; done)); (with_reducible apply runO_go); simp only [go_sem, *, Heap.set_set]))
          have ht := HB.out.turn HK.out HSO.out (c := cc.set j { cc.getD j default with n := IntKind.i64.wrap ((cc.getD j default).n + 300) }) (by rw [List.length_set, HCC.out])
          have hm2 : (cc.set j { cc.getD j default with n := IntKind.i64.wrap ((cc.getD j default).n + 300) }).length = m := by rw [List.length_set]; exact HSM.out
          refine IHb.out (m - (j + 1)) _ _ (by omega) ⟨j + 1, ss.set k ⟨cc.set j { cc.getD j default with n := IntKind.i64.wrap ((cc.getD j default).n + 300) }, some (bi, cap, r2)⟩, by omega, rfl, ⟨by rw [List.length_set]; exact HS.out, ht, ?_, ?_, ?_⟩, (by simp only [go_sem, *]), (by simp only [go_sem, *]), (by simp only [go_sem, *]), (by simp only [go_sem, *]), (by simp only [go_sem, *]), (by simp only [go_sem, *]), (by simp only [go_sem, *]), (by simp only [go_sem, *]), (by simp only [go_sem, *]), (by first | (simp only [go_sem, *]; done) | (simp only [go_sem, *]; rfl)), trivial⟩
          · rw [List.getD_eq_getElem?_getD, List.getElem?_set_self HK.out]; rfl
          · rw [List.getD_eq_getElem?_getD, List.getElem?_set_self HK.out]; exact hm2
          · intro r hr
            rcases List.mem_or_eq_of_mem_set hr with hr | hr
            · exact HS50.out r hr
            · rw [hr]; exact hm2 ▸ m50
        · obtain rfl : j = m := by omega
          repeat' (first
    | (with_reducible apply run_seq)
    | (with_reducible apply run_inBlock)
    | (with_reducible apply run_exit rfl)
    | ((with_reducible apply run_go); simp only [go_sem, *])
    | ((with_reducible apply run_cond_f); (focus (simp only [go_sem, *]; done))))
          refine IHa.out (n - (k + 1)) _ _ (by omega) ⟨k + 1, ss, by omega, rfl, ⟨hsl, hcb, hs50⟩, (by simp only [go_sem, *]), (by simp only [go_sem, *]), (by simp only [go_sem, *]), (by simp only [go_sem, *]), (by simp only [go_sem, *]), (by simp only [go_sem, *]), (by simp only [go_sem, *]), trivial⟩
    · obtain rfl : k = n := by omega
      clear a4
      repeat' (first
    | (with_reducible apply run_seq)
    | (with_reducible apply run_exit rfl)
    | ((with_reducible apply run_go); simp only [go_sem, *])
    | ((with_reducible apply run_cond_f); (focus (simp only [go_sem, *]; done)))
    | ((with_reducible apply runO_alloc); (focus (simp only [go_sem, *]; rfl)); intro pb hpb; have hfb := Heap.ne_of_none hpb; (try simp only [Heap.set_none'] at hpb); (with_reducible apply runO_go); simp only [go_sem, *])
    | ((with_reducible apply runO_store); (focus (simp only [go_sem]; rfl)); (focus (simp only [go_sem, *]; rfl)); (focus (simp only [go_sem, *]; rfl)); (focus (simp only [go_sem, *]; done)); (focus (simp only [go_sem, *]; done)); (focus (simp only [go_sem, *]; done)); (with_reducible apply runO_go); simp only [go_sem, *, Heap.set_set])
    | ((with_reducible apply runO_callF known17); simp only [go_sem, *]; refine (c6 _).use ?_; (with_reducible apply runO_go); simp only [go_sem, *])
    | ((with_reducible apply runO_callFG known18); (focus (simp only [go_sem, *]; rfl)); (focus (intro _; simp only [go_sem, *]; exact c7 _)); (with_reducible apply runO_go); simp only [go_sem, *])
    | ((with_reducible apply runO_callFG known16); (focus (simp only [go_sem, *]; rfl)); (focus (intro _; simp only [go_sem, *]; exact cz _)); (with_reducible apply runO_go); simp only [go_sem, *])
    | ((with_reducible apply run_ret Try.func3 res3 (H' := H)); (focus (simp only [go_sem, *]; rfl)); (focus trivial); (focus (repeat (first | assumption | exact Heap.sub_refl _ | refine Heap.sub_congr ?_ | refine Heap.sub_set ?_ (by assumption) | refine Heap.sub_set2 ?_ (by first | assumption | (simp only [*]; done) | (simp only [Heap.set_none', ne_eq, *, not_false_eq_true, and_self]; done)))))))
      exact prints_end HF1.out HT1.out
theorem progPrints_call (W : World) (H : Heap) (p : Pg) (hp : p.th.length ≤ 4000000000000000) :
    CallA Try.prog W 3 [.agg (pgC p)] H fun r H' => r = .v (.bool true) := by
  have c1 := fun H => few_call W H p hp
  by_cases hf : fewP p = true
  · have F := few_of hf
    have c2 := fun H => rightPR_call W H p (fun c hc => by have := F.code c hc; omega)
    have c4 := fun H => printP_call W H p (fun c hc => by have := F.code c hc; omega)
    have c5 := fun H => rightP_call W H p (fun c hc => by have := F.code c hc; omega)
    rw [hf] at c1
    cases hr : rightP p with
    | true =>
      rw [hr] at c2 c4 c5
      rw [if_pos rfl, if_pos rfl, str_bsP] at c4
      exact prints_mid W H p F true (bsP p) 0 (by have := bsP_size F; omega) (fun h0 => by
        obtain ⟨_, ⟨h1, _⟩, _⟩ := right_of hr
        rw [h0] at h1
        exact absurd h1 (by simp)) rfl (fun h => by cases h) (fun _ => ⟨rfl, rdP_back hr⟩) c1 c2 c4 c5
    | false =>
      rw [hr] at c2 c4 c5
      exact prints_mid W H p F false [] 1 (by simp) (fun _ => rfl) rfl (fun _ => ⟨rfl, rfl⟩) (fun h => by cases h) c1 c2 c4 c5
  · rw [Bool.not_eq_true] at hf
    rw [hf] at c1
    refine call_in Try.func3 rfl Try.ntmps3 (by simp) ?_
    have c0 := fun H => awake1_call W H
    repeat' (first
    | (with_reducible apply run_seq)
    | ((with_reducible apply run_go); simp only [go_sem, *])
    | ((with_reducible apply run_cond_t); (focus (simp only [go_sem, *]; done)))
    | ((with_reducible apply runO_box); (focus (simp only [go_sem, *]; done)); intro pb hpb; have hfb := Heap.ne_of_none hpb; (try simp only [Heap.set_none'] at hpb); (with_reducible apply runO_go); simp only [go_sem, *])
    | ((with_reducible apply runO_callF known9); simp only [go_sem, *]; refine (c0 _).use ?_; (with_reducible apply runO_go); simp only [go_sem, *])
    | ((with_reducible apply runO_callFG known10); (focus (simp only [go_sem, *]; rfl)); (focus (intro _; simp only [go_sem, *]; exact c1 _)); (with_reducible apply runO_go); simp only [go_sem, *])
    | ((with_reducible apply run_ret Try.func3 res3 (H' := H)); (focus (simp only [go_sem, *]; rfl)); (focus trivial); (focus (repeat (first | assumption | exact Heap.sub_refl _ | refine Heap.sub_congr ?_ | refine Heap.sub_set ?_ (by assumption) | refine Heap.sub_set2 ?_ (by first | assumption | (simp only [*]; done) | (simp only [Heap.set_none', ne_eq, *, not_false_eq_true, and_self]; done)))))))
    rfl
end Go.Proofs.Ytkoechchjiddhaa
