/-
  The law of neighbours that race, and of rows without races: the walk.
-/
import Derived.Test.YtobdagjdhgjplaaRcL
import Derived.Test.YtobdagjdhgjplaaClockU
import Derived.Test.YtobdagjdhgjplaaEvM
set_option linter.unusedSimpArgs false
set_option linter.unusedVariables false
namespace Go.Proofs.Ytobdagjdhgjplaa
open Go Go.Sn Go.RowKit
-- NONE stH_none

theorem swp_len (l : List Ev) (i : Nat) : (swp l i).length = l.length := by simp [swp]
def xsS (s : Nat) : List Int := (List.range 4).map fun t : Nat => (((t + s) % 4 : Nat) : Int)
theorem xsS_get (s : Nat) {t : Nat} (h : t < 4) : (xsS s).getD t default = (((t + s) % 4 : Nat) : Int) := by simp [xsS, List.getD, h]
theorem xsS_ok {s : Nat} (h : s < 4) : (xsS s).Nodup ∧ ∀ t : Int, 0 ≤ t → t < 4 → t ∈ xsS s := by
  have key : ∀ s : Fin 4, (xsS s.val).Nodup ∧ ∀ t : Fin 4, (t.val : Int) ∈ xsS s.val := by decide
  obtain ⟨h1, h2⟩ := key ⟨s, h⟩
  refine ⟨h1, fun t h0 h4 => ?_⟩
  have := h2 ⟨t.toNat, by omega⟩
  rwa [show ((⟨t.toNat, by omega⟩ : Fin 4).val : Int) = t by show (t.toNat : Int) = t; omega] at this
theorem any_take_succ {α : Type} [Inhabited α] (l : List α) (p : α → Bool) {k : Nat} (h : k < l.length) : (l.take (k + 1)).any p = ((l.take k).any p || p (l.getD k default)) := by
  rw [take_succ_getD _ _ h, List.any_append]
  simp

set_option maxRecDepth 100000 in
set_option maxHeartbeats 16000000 in
theorem raceSwaps_call (W : World) (H : Heap) (row : List Ev) (i : Int) :
    CallA Try.prog W 11 [.list (evsC row), .v (.int .i64 i)] H fun r H' => r = .v (.bool true) := by
  refine call_in Try.func11 rfl Try.ntmps11 (by simp) ?_
  have c0 := fun H => awake7_call W H
  by_cases hr : row.length ≤ 30
  · have hr' : ¬ (30 : Int) < (row.length : Int) := by omega
    by_cases h2 : 2 ≤ row.length
    · have h2' : ¬ (row.length : Int) < 2 := by omega
      have c1 := fun H => rows_call W H row (by omega)
      by_cases hR : row.all rightR = true
      · rw [hR] at c1
        obtain ⟨j, hj, ej, wj⟩ := fmod_ex i (n := row.length - 1) (by omega) (by omega)
        have hw0 : IntKind.i64.wrap ((row.length : Int) - 1) = ((row.length - 1 : Nat) : Int) := by rw [wrapP (by omega) (by omega)]; omega
        have hun := fu64_nat (n := row.length - 1) (by omega)
        have hn0 : ¬ ((row.length - 1 : Nat) : Int) = 0 := by omega
        have hw2 : IntKind.i64.wrap ((j : Int) + 2) = ((j + 2 : Nat) : Int) := by rw [wrapP (by omega) (by omega)]; omega
        have hw1 := wrap_succ (k := j) (by omega)
        have hal := evsC_all row
        have hj2 : j + 2 ≤ row.length := by omega
        have hj1 : j + 1 < row.length := by omega
        have hj0 : j < row.length := by omega
        have v1 := fun H => rev_call W H (row.take (j + 2)) (by rw [List.length_take]; omega)
        have hfl := found_law hR hj1
        have hrl : (revE (row.take (j + 2))).length ≤ 1000000 := by unfold revE; split; exact revP_le _ (Nat.le_refl _) (by rw [List.length_take]; omega); simp
        have HR : Hid _ := hR
        clear hR
        generalize revE (row.take (j + 2)) = rs at *
        repeat' (first
    | (with_reducible apply run_seq)
    | (with_reducible apply run_block)
    | (with_reducible apply run_skip)
    | ((with_reducible apply run_go); simp only [go_sem, *])
    | ((with_reducible apply run_cond_f); (focus (simp only [go_sem, *]; done)))
    | ((first | (with_reducible apply runA_and) | (with_reducible apply runO_and) | (with_reducible apply runD_and)); (focus (first | assumption | (simp only [go_sem, *]; done) | (simp only [go_sem, *]; assumption))); (try simp only [go_sem, *]))
    | ((with_reducible apply runO_callF known36); simp only [go_sem, *]; refine (c0 _).use ?_; (with_reducible apply runO_go); simp only [go_sem, *])
    | ((with_reducible apply runO_callFG known43); (focus (simp only [go_sem, *]; rfl)); (focus (intro _; simp only [go_sem, *]; exact c1 _)); (with_reducible apply runO_go); simp only [go_sem, *])
    | ((with_reducible apply runO_callF known39); simp only [go_sem, *]; refine (v1 _).use ?_; (with_reducible apply runO_go); simp only [go_sem, *]))
        clear c0 c1 v1
        refine run_loop (fun na ea Ha => ∃ (k : Nat), k ≤ rs.length ∧ na = rs.length - k ∧ ea 0 = .list (evsC row) ∧ ea 1 = .v (.int .i64 (j : Int)) ∧ ea 5 = .v (.bool ((rs.take k).any fun r => decide (r.pl = (j : Int)) && decide (r.th = (row.getD (j + 1) default).th))) ∧ ea 44 = .list (rcsC rs) ∧ ea 45 = .v (.int .i64 (rs.length : Int)) ∧ ea 46 = .v (.int .i64 (k : Int)) ∧ H = Ha) (rs.length)
            ⟨0, Nat.zero_le _, rfl, (by simp only [go_sem, *]), (by simp only [go_sem, *]), (by simp only [go_sem] <;> rfl), (by simp only [go_sem, *]), (by simp only [go_sem, *]), (by simp only [go_sem] <;> rfl), rfl⟩ ?_
        rintro na ea Ha ih ⟨k, ak, rfl, as0, as1, as5, as44, as45, as46, rfl⟩
        have IHa : Hid _ := ih
        clear ih
        by_cases hlt : k < rs.length
        · have hwk := wrap_succ (k := k) (by omega)
          have hsu := any_take_succ rs (fun r => decide (r.pl = (j : Int)) && decide (r.th = (row.getD (j + 1) default).th)) hlt
          generalize ((rs.take k).any fun r => decide (r.pl = (j : Int)) && decide (r.th = (row.getD (j + 1) default).th)) = b at *
          generalize hrk : rs.getD k default = r at *
          obtain ⟨rp, rt⟩ := r
          simp only at hsu
          cases b with
          | true =>
            rw [Bool.true_or] at hsu
            repeat' (first
    | (with_reducible apply run_seq)
    | (with_reducible apply run_block)
    | (with_reducible apply run_inBlock)
    | (with_reducible apply run_skip)
    | ((with_reducible apply run_go); simp only [go_sem, *])
    | ((with_reducible apply run_drawGo Cl.zero Cl.zero_plain mixed); (focus kernel_rfl); simp only [go_sem, *])
    | ((with_reducible apply run_cond_t); (focus (simp only [go_sem, *]; done)))
    | ((with_reducible apply runO_alloc); (focus (simp only [go_sem, *]; rfl)); intro pb hpb; have hfb := Heap.ne_of_none hpb; (try simp only [Heap.set_none', stH_none] at hpb); (with_reducible apply runO_go); simp only [go_sem, *])
    | ((with_reducible apply runO_store); (focus (simp only [go_sem]; rfl)); (focus (simp only [go_sem, *]; rfl)); (focus (simp only [go_sem, *]; rfl)); (focus (simp only [go_sem, *]; done)); (focus (simp only [go_sem, *]; done)); (focus (simp only [go_sem, *]; done)); (with_reducible apply runO_go); simp only [go_sem, *, Heap.set_set]))
            refine run_drop (H' := H) (by (repeat (first | assumption | exact Heap.sub_refl _ | refine Heap.sub_congr ?_ | refine Heap.sub_set ?_ (by assumption) | refine Heap.sub_set2 ?_ (by first | assumption | (simp only [*]; done) | (simp only [Heap.set_none', stH_none, ne_eq, *, not_false_eq_true, and_self]; done)))); done) ?_
            refine IHa.out (rs.length - (k + 1)) _ _ (by omega) ⟨k + 1, by omega, rfl, (by simp only [go_sem, *]), (by simp only [go_sem, *]), (by first | (simp only [go_sem, *]; done) | (simp only [go_sem, *]; rfl)), (by simp only [go_sem, *]), (by simp only [go_sem, *]), (by simp only [go_sem, *]), rfl⟩
          | false =>
            rw [Bool.false_or] at hsu
            by_cases e1 : rp = (j : Int)
            · subst e1
              rw [decide_eq_true rfl, Bool.true_and] at hsu
              repeat' (first
    | (with_reducible apply run_seq)
    | (with_reducible apply run_block)
    | (with_reducible apply run_inBlock)
    | (with_reducible apply run_skip)
    | ((with_reducible apply run_go); simp only [go_sem, *])
    | ((with_reducible apply run_drawGo Cl.zero Cl.zero_plain mixed); (focus kernel_rfl); simp only [go_sem, *])
    | ((with_reducible apply run_cond_t); (focus (simp only [go_sem, *]; done)))
    | ((with_reducible apply runO_alloc); (focus (simp only [go_sem, *]; rfl)); intro pb hpb; have hfb := Heap.ne_of_none hpb; (try simp only [Heap.set_none', stH_none] at hpb); (with_reducible apply runO_go); simp only [go_sem, *])
    | ((with_reducible apply runO_store); (focus (simp only [go_sem]; rfl)); (focus (simp only [go_sem, *]; rfl)); (focus (simp only [go_sem, *]; rfl)); (focus (simp only [go_sem, *]; done)); (focus (simp only [go_sem, *]; done)); (focus (simp only [go_sem, *]; done)); (with_reducible apply runO_go); simp only [go_sem, *, Heap.set_set]))
              refine run_drop (H' := H) (by (repeat (first | assumption | exact Heap.sub_refl _ | refine Heap.sub_congr ?_ | refine Heap.sub_set ?_ (by assumption) | refine Heap.sub_set2 ?_ (by first | assumption | (simp only [*]; done) | (simp only [Heap.set_none', stH_none, ne_eq, *, not_false_eq_true, and_self]; done)))); done) ?_
              refine IHa.out (rs.length - (k + 1)) _ _ (by omega) ⟨k + 1, by omega, rfl, (by simp only [go_sem, *]), (by simp only [go_sem, *]), (by first | (simp only [go_sem, *]; done) | (simp only [go_sem, *]; rfl)), (by simp only [go_sem, *]), (by simp only [go_sem, *]), (by simp only [go_sem, *]), rfl⟩
            · rw [decide_eq_false e1, Bool.false_and] at hsu
              repeat' (first
    | (with_reducible apply run_seq)
    | (with_reducible apply run_block)
    | (with_reducible apply run_inBlock)
    | (with_reducible apply run_skip)
    | ((with_reducible apply run_go); simp only [go_sem, *])
    | ((with_reducible apply run_drawGo Cl.zero Cl.zero_plain mixed); (focus kernel_rfl); simp only [go_sem, *])
    | ((with_reducible apply run_cond_t); (focus (simp only [go_sem, *]; done)))
    | ((with_reducible apply runO_alloc); (focus (simp only [go_sem, *]; rfl)); intro pb hpb; have hfb := Heap.ne_of_none hpb; (try simp only [Heap.set_none', stH_none] at hpb); (with_reducible apply runO_go); simp only [go_sem, *])
    | ((with_reducible apply runO_store); (focus (simp only [go_sem]; rfl)); (focus (simp only [go_sem, *]; rfl)); (focus (simp only [go_sem, *]; rfl)); (focus (simp only [go_sem, *]; done)); (focus (simp only [go_sem, *]; done)); (focus (simp only [go_sem, *]; done)); (with_reducible apply runO_go); simp only [go_sem, *, Heap.set_set]))
              refine run_drop (H' := H) (by (repeat (first | assumption | exact Heap.sub_refl _ | refine Heap.sub_congr ?_ | refine Heap.sub_set ?_ (by assumption) | refine Heap.sub_set2 ?_ (by first | assumption | (simp only [*]; done) | (simp only [Heap.set_none', stH_none, ne_eq, *, not_false_eq_true, and_self]; done)))); done) ?_
              refine IHa.out (rs.length - (k + 1)) _ _ (by omega) ⟨k + 1, by omega, rfl, (by simp only [go_sem, *]), (by simp only [go_sem, *]), (by first | (simp only [go_sem, *]; done) | (simp only [go_sem, *]; rfl)), (by simp only [go_sem, *]), (by simp only [go_sem, *]), (by simp only [go_sem, *]), rfl⟩
        · obtain rfl : k = rs.length := by omega
          rw [List.take_length, hfl] at as5
          have hne : row ≠ [] := fun e => by rw [e] at hj0; simp at hj0
          clear IHa hfl hrl
          repeat' (first
    | (with_reducible apply run_seq)
    | (with_reducible apply run_exit rfl)
    | ((with_reducible apply run_go); simp only [go_sem, *])
    | ((with_reducible apply run_cond_f); (focus (simp only [go_sem, *]; done)))
    | ((with_reducible apply runO_buildSlice); (focus (simp only [go_sem]; rfl)); (focus (simp only [go_sem]; rfl)); (focus (simp only [go_sem]; rfl)); (focus rfl); (focus rfl); (focus (simp only [go_sem, *]; done)); (focus (simp only [go_sem, *]; done)); (focus decide); (with_reducible apply runO_go); simp only [go_sem, *]))
          refine runO_append_cells (t := 41) (ys := evsC row) Try.underlying41 sz55 by55 zr55 rfl (by simp only [go_sem, *]) (.imm (by simp only [go_sem, *])) (evsC_all row) (by rw [evsC_length]; omega) (by rw [evsC_length]; simp only [maxLen]; omega) (by simpa [evsC] using hne) (fun bl cl rl hbl hcl => ?_)
          rw [evsC_length] at hcl ⊢
          have g1 := evs_elem row rl (i := j) (by omega)
          have g2 := evs_elem row rl (i := j + 1) (by omega)
          have g3 := evs_len row rl
          have p1 := evs_put row rl (i := j) (by omega) (row.getD (j + 1) default)
          have p2 : _ = (evsC (swp row j)).flatten ++ rl := evs_put (row.set j (row.getD (j + 1) default)) rl (i := j + 1) (by rw [List.length_set]; omega) (row.getD j default)
          have g4 := evs_len (row.set j (row.getD (j + 1) default)) rl
          rw [List.length_set] at g4
          have i2 : j * 4 + 4 ≤ row.length * 4 + rl.length := by omega
          have i3 : (j + 1) * 4 + 4 ≤ row.length * 4 + rl.length := by omega
          (with_reducible apply runO_go); simp only [go_sem]
          iterate 4 (first
    | (with_reducible apply run_seq)
    | ((with_reducible apply run_drawGo Cl.zero Cl.zero_plain mixed); (focus kernel_rfl); simp only [go_sem, *])
    | ((with_reducible apply runD_store); (focus (simp only [go_sem]; rfl)); (focus (simp only [go_sem, *]; rfl)); (focus (simp only [go_sem, *]; rfl)); (focus (simp only [go_sem, *]; done)); (focus (simp only [go_sem, *]; done)); (focus (simp only [go_sem, *]; done)); (focus (first | rfl | (simp only [go_sem, *]; done))); (with_reducible first | apply runD_go Cl.zero_plain | apply runD_goC); simp only [go_sem, *, Heap.set_set]))
          refine run_freezeR (j := 8) (b := bl) (n := row.length) (c := cl) (sz := 4) (e := 55) (rest := rl) (xs := evsC (swp row j)) (by simp only [go_sem, *]) (Heap.set_same _ _ _) (by rw [evsC_length, swp_len]) hcl (evsC_all _) ?_
          rw [Heap.del_set hbl]
          obtain ⟨hA, hsw⟩ := swaps_law HR.out hj1
          have d6 := fun H => sameP_call W H (swp row j) row (by rw [swp_len]; omega) (by omega)
          have v2 := fun H => rev_call W H row (by omega)
          clear g1 g2 g3 g4 p1 p2 i2 i3 hbl hcl
          have hfd : fnd row j = (!decide ((row.getD j default).th = (row.getD (j + 1) default).th) && depE (row.getD j default) (row.getD (j + 1) default)) := rfl
          have key : (row.getD j default).th = (row.getD (j + 1) default).th ∧ fnd row j = false ∨ ¬ (row.getD j default).th = (row.getD (j + 1) default).th ∧ ∀ H, CallA Try.prog W 44 [.list (evsC (swp row j)), .list (evsC row)] H fun r H' => r = .v (.bool (!fnd row j)) ∧ H' = H := by
            by_cases ht : (row.getD j default).th = (row.getD (j + 1) default).th
            · exact .inl ⟨ht, by rw [hfd, decide_eq_true ht]; rfl⟩
            · exact .inr ⟨ht, fun H => by rw [← hsw ht]; exact d6 H⟩
          have hb1 : (false == true) = false := rfl
          have hb2 : (true == false) = false := rfl
          clear d6 hsw hA hfd
          by_cases hno : revE row = []
          · rw [hno] at v2
            have hz : rcsC [] = [] := rfl
            rw [hz] at v2
            have HNO : Hid _ := hno
            clear hno
            rcases key with ⟨ht, hfn⟩ | ⟨ht, d7⟩
            · rw [hfn] at as5
              repeat' (first
    | (with_reducible apply run_seq)
    | (with_reducible apply run_block)
    | (with_reducible apply run_skip)
    | ((with_reducible apply run_go); simp only [go_sem, *])
    | ((with_reducible apply run_drawGo Cl.zero Cl.zero_plain mixed); (focus kernel_rfl); simp only [go_sem, *])
    | ((with_reducible apply run_cond_f); (focus (simp only [go_sem, *]; done)))
    | ((with_reducible apply runD_skipF); (focus rfl); (focus (simp only [go_sem, *]; rfl)); (focus rfl); (with_reducible first | apply runD_go Cl.zero_plain | apply runD_goC); simp only [go_sem, *])
    | ((with_reducible apply runO_callF known39); simp only [go_sem, *]; refine (v2 _).use ?_; (with_reducible apply runO_go); simp only [go_sem, *]))
              clear hfn
              clear v2
              refine run_loop (fun nb eb Hb => ∃ (sh : Nat), sh ≤ 4 ∧ nb = 4 - sh ∧ eb 0 = .list (evsC row) ∧ eb 128 = .v (.int .i64 (sh : Int)) ∧ H = Hb) (4)
                  ⟨0, Nat.zero_le _, rfl, (by simp only [go_sem, *]), (by simp only [go_sem] <;> rfl), rfl⟩ ?_
              rintro nb eb Hb ih ⟨sh, bk, rfl, bs0, bs128, rfl⟩
              have IHb : Hid _ := ih
              clear ih
              by_cases hs4 : sh < 4
              · have hws := wrap_succ (k := sh) (by omega)
                have hs4' : (sh : Int) < 4 := by omega
                obtain ⟨hnd, hal4⟩ := xsS_ok hs4
                obtain ⟨hA, hsame⟩ := norace_law HR.out HNO.out hnd hal4
                have hsl := sortT_len row (xsS sh)
                have hxl : (xsS sh).length = 4 := by simp [xsS]
                rw [hxl] at hsl
                have d6 := fun H => sameP_call W H (sortT (xsS sh) row) row (by omega) (by omega)
                rw [hsame] at d6
                have hpl : ∀ t, (sortT ((xsS sh).take t) row).length ≤ 4 * row.length := fun t => by
                  have h1 := sortT_len row ((xsS sh).take t)
                  have h2 : ((xsS sh).take t).length ≤ 4 := by rw [List.length_take]; omega
                  exact Nat.le_trans h1 (Nat.mul_le_mul_right _ h2)
                have HXG : Hid (∀ t, t < 4 → (xsS sh).getD t default = (((t + sh) % 4 : Nat) : Int)) := fun t h => xsS_get sh h
                clear hnd hal4 hA hsame hsl
                repeat' (first
    | (with_reducible apply run_seq)
    | (with_reducible apply run_block)
    | (with_reducible apply run_skip)
    | ((with_reducible apply run_go); simp only [go_sem, *])
    | ((with_reducible apply run_cond_t); (focus (simp only [go_sem, *]; done))))
                refine run_loop (fun nc ec Hc => ∃ (t : Nat), t ≤ 4 ∧ nc = 4 - t ∧ ec 0 = .list (evsC row) ∧ ec 9 = .v (.int .i64 (sh : Int)) ∧ ec 128 = .v (.int .i64 (sh : Int)) ∧ ec 131 = .v (.int .i64 (t : Int)) ∧ Coll (H) (55) (4) (evsC (sortT ((xsS sh).take t) row)) (ec 10) Hc) (4)
                    ⟨0, Nat.zero_le _, rfl, (by simp only [go_sem, *]), (by simp only [go_sem, *]), (by simp only [go_sem, *]), (by simp only [go_sem] <;> rfl), (by simp only [go_sem]; exact .none rfl)⟩ ?_
                rintro nc ec Hc ih ⟨t, ck, rfl, cs0, cs9, cs128, cs131, cc⟩
                generalize hcc : ec 10 = dc at cc
                have IHc : Hid _ := ih
                clear ih
                have hpt := hpl t
                by_cases ht4 : t < 4
                · have hwt := wrap_succ (k := t) (by omega)
                  have ht4' : (t : Int) < 4 := by omega
                  have hss := sortT_succ (xsS sh) row (t := t) (by omega)
                  rw [HXG.out t ht4] at hss
                  have HSS : Hid _ := hss
                  have hwa : IntKind.i64.wrap ((t : Int) + (sh : Int)) = ((t + sh : Nat) : Int) := by rw [wrapP (by omega) (by omega)]; omega
                  have hmo : ((t + sh : Nat) : Int).tmod 4 = (((t + sh) % 4 : Nat) : Int) := tmodN _ 4
                  clear hss
                  generalize (t + sh) % 4 = x at *
                  repeat' (first
    | (with_reducible apply run_seq)
    | (with_reducible apply run_block)
    | (with_reducible apply run_skip)
    | ((with_reducible apply run_go); simp only [go_sem, *])
    | ((with_reducible apply run_cond_t); (focus (simp only [go_sem, *]; done))))
                  refine run_loop (fun nd ed Hd => ∃ (n : Nat), n ≤ row.length ∧ nd = row.length - n ∧ ed 0 = .list (evsC row) ∧ ed 9 = .v (.int .i64 (sh : Int)) ∧ ed 11 = .v (.int .i64 (t : Int)) ∧ ed 128 = .v (.int .i64 (sh : Int)) ∧ ed 131 = .v (.int .i64 (t : Int)) ∧ ed 134 = .list (evsC row) ∧ ed 135 = .v (.int .i64 (row.length : Int)) ∧ ed 136 = .v (.int .i64 (n : Int)) ∧ Coll (H) (55) (4) (evsC (sortT ((xsS sh).take t) row ++ pkE row (x : Int) n)) (ed 10) Hd) (row.length)
                      ⟨0, Nat.zero_le _, rfl, (by simp only [go_sem, *]), (by simp only [go_sem, *]), (by simp only [go_sem, *]), (by simp only [go_sem, *]), (by simp only [go_sem, *]), (by simp only [go_sem, *]), (by simp only [go_sem, *]), (by simp only [go_sem] <;> rfl), (by simp only [go_sem]; exact (by simp only [hcc]; simpa [pkE] using cc))⟩ ?_
                  rintro nd ed Hd ih ⟨n, dk, rfl, ds0, ds9, ds11, ds128, ds131, ds134, ds135, ds136, cd⟩
                  generalize hdc : ed 10 = dd at cd
                  have IHd : Hid _ := ih
                  clear ih
                  have hsubd := cd.sub
                  have hpk := pkE_len row (x : Int) n
                  by_cases hn : n < row.length
                  · have hwn := wrap_succ (k := n) (by omega)
                    have hps := pkE_succ row (x : Int) hn
                    by_cases hx : (row.getD n default).th = (x : Int)
                    · rw [if_pos hx] at hps
                      have HPS : Hid _ := hps
                      clear hps
                      repeat' (first
    | (with_reducible apply run_seq)
    | (with_reducible apply run_block)
    | (with_reducible apply run_skip)
    | ((with_reducible apply run_go); simp only [go_sem, *])
    | ((with_reducible apply run_cond_t); (focus (simp only [go_sem, *]; done)))
    | ((with_reducible apply runO_alloc); (focus (simp only [go_sem, *]; rfl)); intro pb hpb; have hfb := Heap.ne_of_none hpb; (try simp only [Heap.set_none', stH_none] at hpb); (with_reducible apply runO_go); simp only [go_sem, *])
    | ((with_reducible apply runO_store); (focus (simp only [go_sem]; rfl)); (focus (simp only [go_sem, *]; rfl)); (focus (simp only [go_sem, *]; rfl)); (focus (simp only [go_sem, *]; done)); (focus (simp only [go_sem, *]; done)); (focus (simp only [go_sem, *]; done)); (with_reducible apply runO_go); simp only [go_sem, *, Heap.set_set])
    | ((with_reducible apply runO_buildSlice); (focus (simp only [go_sem]; rfl)); (focus (simp only [go_sem]; rfl)); (focus (simp only [go_sem]; rfl)); (focus rfl); (focus rfl); (focus (simp only [go_sem, *]; done)); (focus (simp only [go_sem, *]; done)); (focus decide); (with_reducible apply runO_go); simp only [go_sem, *]))
                      refine runO_drop (H' := Hd) (by (repeat (first | assumption | exact Heap.sub_refl _ | refine Heap.sub_congr ?_ | refine Heap.sub_set ?_ (by assumption) | refine Heap.sub_set2 ?_ (by first | assumption | (simp only [*]; done) | (simp only [Heap.set_none', stH_none, ne_eq, *, not_false_eq_true, and_self]; done)))); done) ?_
                      (refine runO_coll (t := 41) Try.underlying41 sz55 by55 zr55 rfl (by simp only [go_sem, *]; exact cd) (by simp only [go_sem, *]; rfl) (evsC_all _) (by simp [evC_len]) (by (try simp only [List.length_range, List.length_map, List.length_take, List.length_cons, List.length_nil, List.length_append, go_sem]); omega) (by (try simp only [maxLen, List.length_range, List.length_map, List.length_take, List.length_cons, List.length_nil, List.length_append, go_sem]); omega) (fun d1 H1 hc1 => ?_); (with_reducible apply runO_go); simp only [go_sem, *])
                      repeat' (first
    | (with_reducible apply run_inBlock)
    | ((with_reducible apply run_go); simp only [go_sem, *]))
                      refine IHd.out (row.length - (n + 1)) _ _ (by omega) ⟨n + 1, by omega, rfl, (by simp only [go_sem, *]), (by simp only [go_sem, *]), (by simp only [go_sem, *]), (by simp only [go_sem, *]), (by simp only [go_sem, *]), (by simp only [go_sem, *]), (by simp only [go_sem, *]), (by simp only [go_sem, *]), ?_⟩
                      simp only [go_sem]
                      rw [HPS.out, ← List.append_assoc, evsC_snoc]
                      exact hc1
                    · rw [if_neg hx] at hps
                      have HPS : Hid _ := hps
                      clear hps
                      repeat' (first
    | (with_reducible apply run_seq)
    | (with_reducible apply run_block)
    | (with_reducible apply run_inBlock)
    | (with_reducible apply run_skip)
    | ((with_reducible apply run_go); simp only [go_sem, *])
    | ((with_reducible apply run_cond_t); (focus (simp only [go_sem, *]; done)))
    | ((with_reducible apply run_cond_f); (focus (simp only [go_sem, *]; done)))
    | ((with_reducible apply runO_alloc); (focus (simp only [go_sem, *]; rfl)); intro pb hpb; have hfb := Heap.ne_of_none hpb; (try simp only [Heap.set_none', stH_none] at hpb); (with_reducible apply runO_go); simp only [go_sem, *])
    | ((with_reducible apply runO_store); (focus (simp only [go_sem]; rfl)); (focus (simp only [go_sem, *]; rfl)); (focus (simp only [go_sem, *]; rfl)); (focus (simp only [go_sem, *]; done)); (focus (simp only [go_sem, *]; done)); (focus (simp only [go_sem, *]; done)); (with_reducible apply runO_go); simp only [go_sem, *, Heap.set_set]))
                      refine run_drop (H' := Hd) (by (repeat (first | assumption | exact Heap.sub_refl _ | refine Heap.sub_congr ?_ | refine Heap.sub_set ?_ (by assumption) | refine Heap.sub_set2 ?_ (by first | assumption | (simp only [*]; done) | (simp only [Heap.set_none', stH_none, ne_eq, *, not_false_eq_true, and_self]; done)))); done) ?_
                      refine IHd.out (row.length - (n + 1)) _ _ (by omega) ⟨n + 1, by omega, rfl, (by simp only [go_sem, *]), (by simp only [go_sem, *]), (by simp only [go_sem, *]), (by simp only [go_sem, *]), (by simp only [go_sem, *]), (by simp only [go_sem, *]), (by simp only [go_sem, *]), (by simp only [go_sem, *]), ?_⟩
                      rw [HPS.out]
                      simp only [go_sem, *]
                  · obtain rfl : n = row.length := by omega
                    repeat' (first
    | (with_reducible apply run_seq)
    | (with_reducible apply run_inBlock)
    | (with_reducible apply run_exit rfl)
    | ((with_reducible apply run_go); simp only [go_sem, *])
    | ((with_reducible apply run_cond_f); (focus (simp only [go_sem, *]; done))))
                    refine IHc.out (4 - (t + 1)) _ _ (by omega) ⟨t + 1, by omega, rfl, (by simp only [go_sem, *]), (by simp only [go_sem, *]), (by simp only [go_sem, *]), (by simp only [go_sem, *]), ?_⟩
                    rw [HSS.out]
                    simp only [go_sem, *]
                · obtain rfl : t = 4 := by omega
                  have hfe : (xsS sh).take 4 = xsS sh := List.take_of_length_le (by omega)
                  rw [hfe] at cc
                  refine run_coll (j := 10) (by rw [hcc]; exact cc) ?_
                  clear cc hcc IHc
                  repeat' (first
    | (with_reducible apply run_seq)
    | (with_reducible apply run_inBlock)
    | (with_reducible apply run_skip)
    | (with_reducible apply run_exit rfl)
    | ((with_reducible apply run_go); simp only [go_sem, *])
    | ((with_reducible apply run_cond_f); (focus (simp only [go_sem, *]; done)))
    | ((with_reducible apply runO_callF known44); simp only [go_sem, *]; refine (d6 _).use ?_; (with_reducible apply runO_go); simp only [go_sem, *]))
                  refine IHb.out (4 - (sh + 1)) _ _ (by omega) ⟨sh + 1, by omega, rfl, (by simp only [go_sem, *]), (by simp only [go_sem, *]), rfl⟩
              · have hs4' : ¬ (sh : Int) < 4 := by omega
                repeat' (first
    | (with_reducible apply run_seq)
    | (with_reducible apply run_exit rfl)
    | ((with_reducible apply run_go); simp only [go_sem, *])
    | ((with_reducible apply run_cond_f); (focus (simp only [go_sem, *]; done)))
    | ((with_reducible apply run_ret Try.func11 res11 (H' := H)); (focus (simp only [go_sem, *]; rfl)); (focus trivial); (focus (repeat (first | assumption | exact Heap.sub_refl _ | refine Heap.sub_congr ?_ | refine Heap.sub_set ?_ (by assumption) | refine Heap.sub_set2 ?_ (by first | assumption | (simp only [*]; done) | (simp only [Heap.set_none', stH_none, ne_eq, *, not_false_eq_true, and_self]; done)))))))
                rfl
            · generalize fnd row j = q at *
              cases q
              all_goals (repeat' (first
    | (with_reducible apply run_seq)
    | (with_reducible apply run_block)
    | (with_reducible apply run_skip)
    | ((with_reducible apply run_go); simp only [go_sem, *])
    | ((with_reducible apply run_drawGo Cl.zero Cl.zero_plain mixed); (focus kernel_rfl); simp only [go_sem, *])
    | ((with_reducible apply run_cond_f); (focus (simp only [go_sem, *]; done)))
    | ((with_reducible apply runO_callF known39); simp only [go_sem, *]; refine (v2 _).use ?_; (with_reducible apply runO_go); simp only [go_sem, *])
    | ((with_reducible apply runD_callFG known44); (focus exact ⟨rfl, rfl⟩); (focus (simp only [go_sem, *]; rfl)); (focus (intro _; simp only [go_sem, *]; exact d7 _)); (with_reducible first | apply runD_go Cl.zero_plain | apply runD_goC); simp only [go_sem, *])))
              all_goals
                clear v2
                refine run_loop (fun nb eb Hb => ∃ (sh : Nat), sh ≤ 4 ∧ nb = 4 - sh ∧ eb 0 = .list (evsC row) ∧ eb 128 = .v (.int .i64 (sh : Int)) ∧ H = Hb) (4)
                    ⟨0, Nat.zero_le _, rfl, (by simp only [go_sem, *]), (by simp only [go_sem] <;> rfl), rfl⟩ ?_
                rintro nb eb Hb ih ⟨sh, bk, rfl, bs0, bs128, rfl⟩
                have IHb : Hid _ := ih
                clear ih
                by_cases hs4 : sh < 4
                · have hws := wrap_succ (k := sh) (by omega)
                  have hs4' : (sh : Int) < 4 := by omega
                  obtain ⟨hnd, hal4⟩ := xsS_ok hs4
                  obtain ⟨hA, hsame⟩ := norace_law HR.out HNO.out hnd hal4
                  have hsl := sortT_len row (xsS sh)
                  have hxl : (xsS sh).length = 4 := by simp [xsS]
                  rw [hxl] at hsl
                  have d6 := fun H => sameP_call W H (sortT (xsS sh) row) row (by omega) (by omega)
                  rw [hsame] at d6
                  have hpl : ∀ t, (sortT ((xsS sh).take t) row).length ≤ 4 * row.length := fun t => by
                    have h1 := sortT_len row ((xsS sh).take t)
                    have h2 : ((xsS sh).take t).length ≤ 4 := by rw [List.length_take]; omega
                    exact Nat.le_trans h1 (Nat.mul_le_mul_right _ h2)
                  have HXG : Hid (∀ t, t < 4 → (xsS sh).getD t default = (((t + sh) % 4 : Nat) : Int)) := fun t h => xsS_get sh h
                  clear hnd hal4 hA hsame hsl
                  repeat' (first
    | (with_reducible apply run_seq)
    | (with_reducible apply run_block)
    | (with_reducible apply run_skip)
    | ((with_reducible apply run_go); simp only [go_sem, *])
    | ((with_reducible apply run_cond_t); (focus (simp only [go_sem, *]; done))))
                  refine run_loop (fun nc ec Hc => ∃ (t : Nat), t ≤ 4 ∧ nc = 4 - t ∧ ec 0 = .list (evsC row) ∧ ec 9 = .v (.int .i64 (sh : Int)) ∧ ec 128 = .v (.int .i64 (sh : Int)) ∧ ec 131 = .v (.int .i64 (t : Int)) ∧ Coll (H) (55) (4) (evsC (sortT ((xsS sh).take t) row)) (ec 10) Hc) (4)
                      ⟨0, Nat.zero_le _, rfl, (by simp only [go_sem, *]), (by simp only [go_sem, *]), (by simp only [go_sem, *]), (by simp only [go_sem] <;> rfl), (by simp only [go_sem]; exact .none rfl)⟩ ?_
                  rintro nc ec Hc ih ⟨t, ck, rfl, cs0, cs9, cs128, cs131, cc⟩
                  generalize hcc : ec 10 = dc at cc
                  have IHc : Hid _ := ih
                  clear ih
                  have hpt := hpl t
                  by_cases ht4 : t < 4
                  · have hwt := wrap_succ (k := t) (by omega)
                    have ht4' : (t : Int) < 4 := by omega
                    have hss := sortT_succ (xsS sh) row (t := t) (by omega)
                    rw [HXG.out t ht4] at hss
                    have HSS : Hid _ := hss
                    have hwa : IntKind.i64.wrap ((t : Int) + (sh : Int)) = ((t + sh : Nat) : Int) := by rw [wrapP (by omega) (by omega)]; omega
                    have hmo : ((t + sh : Nat) : Int).tmod 4 = (((t + sh) % 4 : Nat) : Int) := tmodN _ 4
                    clear hss
                    generalize (t + sh) % 4 = x at *
                    repeat' (first
    | (with_reducible apply run_seq)
    | (with_reducible apply run_block)
    | (with_reducible apply run_skip)
    | ((with_reducible apply run_go); simp only [go_sem, *])
    | ((with_reducible apply run_cond_t); (focus (simp only [go_sem, *]; done))))
                    refine run_loop (fun nd ed Hd => ∃ (n : Nat), n ≤ row.length ∧ nd = row.length - n ∧ ed 0 = .list (evsC row) ∧ ed 9 = .v (.int .i64 (sh : Int)) ∧ ed 11 = .v (.int .i64 (t : Int)) ∧ ed 128 = .v (.int .i64 (sh : Int)) ∧ ed 131 = .v (.int .i64 (t : Int)) ∧ ed 134 = .list (evsC row) ∧ ed 135 = .v (.int .i64 (row.length : Int)) ∧ ed 136 = .v (.int .i64 (n : Int)) ∧ Coll (H) (55) (4) (evsC (sortT ((xsS sh).take t) row ++ pkE row (x : Int) n)) (ed 10) Hd) (row.length)
                        ⟨0, Nat.zero_le _, rfl, (by simp only [go_sem, *]), (by simp only [go_sem, *]), (by simp only [go_sem, *]), (by simp only [go_sem, *]), (by simp only [go_sem, *]), (by simp only [go_sem, *]), (by simp only [go_sem, *]), (by simp only [go_sem] <;> rfl), (by simp only [go_sem]; exact (by simp only [hcc]; simpa [pkE] using cc))⟩ ?_
                    rintro nd ed Hd ih ⟨n, dk, rfl, ds0, ds9, ds11, ds128, ds131, ds134, ds135, ds136, cd⟩
                    generalize hdc : ed 10 = dd at cd
                    have IHd : Hid _ := ih
                    clear ih
                    have hsubd := cd.sub
                    have hpk := pkE_len row (x : Int) n
                    by_cases hn : n < row.length
                    · have hwn := wrap_succ (k := n) (by omega)
                      have hps := pkE_succ row (x : Int) hn
                      by_cases hx : (row.getD n default).th = (x : Int)
                      · rw [if_pos hx] at hps
                        have HPS : Hid _ := hps
                        clear hps
                        repeat' (first
    | (with_reducible apply run_seq)
    | (with_reducible apply run_block)
    | (with_reducible apply run_skip)
    | ((with_reducible apply run_go); simp only [go_sem, *])
    | ((with_reducible apply run_cond_t); (focus (simp only [go_sem, *]; done)))
    | ((with_reducible apply runO_alloc); (focus (simp only [go_sem, *]; rfl)); intro pb hpb; have hfb := Heap.ne_of_none hpb; (try simp only [Heap.set_none', stH_none] at hpb); (with_reducible apply runO_go); simp only [go_sem, *])
    | ((with_reducible apply runO_store); (focus (simp only [go_sem]; rfl)); (focus (simp only [go_sem, *]; rfl)); (focus (simp only [go_sem, *]; rfl)); (focus (simp only [go_sem, *]; done)); (focus (simp only [go_sem, *]; done)); (focus (simp only [go_sem, *]; done)); (with_reducible apply runO_go); simp only [go_sem, *, Heap.set_set])
    | ((with_reducible apply runO_buildSlice); (focus (simp only [go_sem]; rfl)); (focus (simp only [go_sem]; rfl)); (focus (simp only [go_sem]; rfl)); (focus rfl); (focus rfl); (focus (simp only [go_sem, *]; done)); (focus (simp only [go_sem, *]; done)); (focus decide); (with_reducible apply runO_go); simp only [go_sem, *]))
                        refine runO_drop (H' := Hd) (by (repeat (first | assumption | exact Heap.sub_refl _ | refine Heap.sub_congr ?_ | refine Heap.sub_set ?_ (by assumption) | refine Heap.sub_set2 ?_ (by first | assumption | (simp only [*]; done) | (simp only [Heap.set_none', stH_none, ne_eq, *, not_false_eq_true, and_self]; done)))); done) ?_
                        (refine runO_coll (t := 41) Try.underlying41 sz55 by55 zr55 rfl (by simp only [go_sem, *]; exact cd) (by simp only [go_sem, *]; rfl) (evsC_all _) (by simp [evC_len]) (by (try simp only [List.length_range, List.length_map, List.length_take, List.length_cons, List.length_nil, List.length_append, go_sem]); omega) (by (try simp only [maxLen, List.length_range, List.length_map, List.length_take, List.length_cons, List.length_nil, List.length_append, go_sem]); omega) (fun d1 H1 hc1 => ?_); (with_reducible apply runO_go); simp only [go_sem, *])
                        repeat' (first
    | (with_reducible apply run_inBlock)
    | ((with_reducible apply run_go); simp only [go_sem, *]))
                        refine IHd.out (row.length - (n + 1)) _ _ (by omega) ⟨n + 1, by omega, rfl, (by simp only [go_sem, *]), (by simp only [go_sem, *]), (by simp only [go_sem, *]), (by simp only [go_sem, *]), (by simp only [go_sem, *]), (by simp only [go_sem, *]), (by simp only [go_sem, *]), (by simp only [go_sem, *]), ?_⟩
                        simp only [go_sem]
                        rw [HPS.out, ← List.append_assoc, evsC_snoc]
                        exact hc1
                      · rw [if_neg hx] at hps
                        have HPS : Hid _ := hps
                        clear hps
                        repeat' (first
    | (with_reducible apply run_seq)
    | (with_reducible apply run_block)
    | (with_reducible apply run_inBlock)
    | (with_reducible apply run_skip)
    | ((with_reducible apply run_go); simp only [go_sem, *])
    | ((with_reducible apply run_cond_t); (focus (simp only [go_sem, *]; done)))
    | ((with_reducible apply run_cond_f); (focus (simp only [go_sem, *]; done)))
    | ((with_reducible apply runO_alloc); (focus (simp only [go_sem, *]; rfl)); intro pb hpb; have hfb := Heap.ne_of_none hpb; (try simp only [Heap.set_none', stH_none] at hpb); (with_reducible apply runO_go); simp only [go_sem, *])
    | ((with_reducible apply runO_store); (focus (simp only [go_sem]; rfl)); (focus (simp only [go_sem, *]; rfl)); (focus (simp only [go_sem, *]; rfl)); (focus (simp only [go_sem, *]; done)); (focus (simp only [go_sem, *]; done)); (focus (simp only [go_sem, *]; done)); (with_reducible apply runO_go); simp only [go_sem, *, Heap.set_set]))
                        refine run_drop (H' := Hd) (by (repeat (first | assumption | exact Heap.sub_refl _ | refine Heap.sub_congr ?_ | refine Heap.sub_set ?_ (by assumption) | refine Heap.sub_set2 ?_ (by first | assumption | (simp only [*]; done) | (simp only [Heap.set_none', stH_none, ne_eq, *, not_false_eq_true, and_self]; done)))); done) ?_
                        refine IHd.out (row.length - (n + 1)) _ _ (by omega) ⟨n + 1, by omega, rfl, (by simp only [go_sem, *]), (by simp only [go_sem, *]), (by simp only [go_sem, *]), (by simp only [go_sem, *]), (by simp only [go_sem, *]), (by simp only [go_sem, *]), (by simp only [go_sem, *]), (by simp only [go_sem, *]), ?_⟩
                        rw [HPS.out]
                        simp only [go_sem, *]
                    · obtain rfl : n = row.length := by omega
                      repeat' (first
    | (with_reducible apply run_seq)
    | (with_reducible apply run_inBlock)
    | (with_reducible apply run_exit rfl)
    | ((with_reducible apply run_go); simp only [go_sem, *])
    | ((with_reducible apply run_cond_f); (focus (simp only [go_sem, *]; done))))
                      refine IHc.out (4 - (t + 1)) _ _ (by omega) ⟨t + 1, by omega, rfl, (by simp only [go_sem, *]), (by simp only [go_sem, *]), (by simp only [go_sem, *]), (by simp only [go_sem, *]), ?_⟩
                      rw [HSS.out]
                      simp only [go_sem, *]
                  · obtain rfl : t = 4 := by omega
                    have hfe : (xsS sh).take 4 = xsS sh := List.take_of_length_le (by omega)
                    rw [hfe] at cc
                    refine run_coll (j := 10) (by rw [hcc]; exact cc) ?_
                    clear cc hcc IHc
                    repeat' (first
    | (with_reducible apply run_seq)
    | (with_reducible apply run_inBlock)
    | (with_reducible apply run_skip)
    | (with_reducible apply run_exit rfl)
    | ((with_reducible apply run_go); simp only [go_sem, *])
    | ((with_reducible apply run_cond_f); (focus (simp only [go_sem, *]; done)))
    | ((with_reducible apply runO_callF known44); simp only [go_sem, *]; refine (d6 _).use ?_; (with_reducible apply runO_go); simp only [go_sem, *]))
                    refine IHb.out (4 - (sh + 1)) _ _ (by omega) ⟨sh + 1, by omega, rfl, (by simp only [go_sem, *]), (by simp only [go_sem, *]), rfl⟩
                · have hs4' : ¬ (sh : Int) < 4 := by omega
                  repeat' (first
    | (with_reducible apply run_seq)
    | (with_reducible apply run_exit rfl)
    | ((with_reducible apply run_go); simp only [go_sem, *])
    | ((with_reducible apply run_cond_f); (focus (simp only [go_sem, *]; done)))
    | ((with_reducible apply run_ret Try.func11 res11 (H' := H)); (focus (simp only [go_sem, *]; rfl)); (focus trivial); (focus (repeat (first | assumption | exact Heap.sub_refl _ | refine Heap.sub_congr ?_ | refine Heap.sub_set ?_ (by assumption) | refine Heap.sub_set2 ?_ (by first | assumption | (simp only [*]; done) | (simp only [Heap.set_none', stH_none, ne_eq, *, not_false_eq_true, and_self]; done)))))))
                  rfl
          · have hpos : (0 : Int) < ((revE row).length : Int) := by have := List.length_pos_iff.2 hno; omega
            rcases key with ⟨ht, hfn⟩ | ⟨ht, d7⟩
            · rw [hfn] at as5
              repeat' (first
    | (with_reducible apply run_seq)
    | (with_reducible apply run_skip)
    | ((with_reducible apply run_go); simp only [go_sem, *])
    | ((with_reducible apply run_drawGo Cl.zero Cl.zero_plain mixed); (focus kernel_rfl); simp only [go_sem, *])
    | ((with_reducible apply run_cond_t); (focus (simp only [go_sem, *]; done)))
    | ((with_reducible apply run_cond_f); (focus (simp only [go_sem, *]; done)))
    | ((with_reducible apply runD_skipF); (focus rfl); (focus (simp only [go_sem, *]; rfl)); (focus rfl); (with_reducible first | apply runD_go Cl.zero_plain | apply runD_goC); simp only [go_sem, *])
    | ((with_reducible apply runO_callF known39); simp only [go_sem, *]; refine (v2 _).use ?_; (with_reducible apply runO_go); simp only [go_sem, *])
    | ((with_reducible apply run_ret Try.func11 res11 (H' := H)); (focus (simp only [go_sem, *]; rfl)); (focus trivial); (focus (repeat (first | assumption | exact Heap.sub_refl _ | refine Heap.sub_congr ?_ | refine Heap.sub_set ?_ (by assumption) | refine Heap.sub_set2 ?_ (by first | assumption | (simp only [*]; done) | (simp only [Heap.set_none', stH_none, ne_eq, *, not_false_eq_true, and_self]; done)))))))
              rfl
            · generalize fnd row j = q at *
              cases q
              all_goals (repeat' (first
    | (with_reducible apply run_seq)
    | (with_reducible apply run_skip)
    | ((with_reducible apply run_go); simp only [go_sem, *])
    | ((with_reducible apply run_drawGo Cl.zero Cl.zero_plain mixed); (focus kernel_rfl); simp only [go_sem, *])
    | ((with_reducible apply run_cond_t); (focus (simp only [go_sem, *]; done)))
    | ((with_reducible apply run_cond_f); (focus (simp only [go_sem, *]; done)))
    | ((with_reducible apply runO_callF known39); simp only [go_sem, *]; refine (v2 _).use ?_; (with_reducible apply runO_go); simp only [go_sem, *])
    | ((with_reducible apply runD_callFG known44); (focus exact ⟨rfl, rfl⟩); (focus (simp only [go_sem, *]; rfl)); (focus (intro _; simp only [go_sem, *]; exact d7 _)); (with_reducible first | apply runD_go Cl.zero_plain | apply runD_goC); simp only [go_sem, *])
    | ((with_reducible apply run_ret Try.func11 res11 (H' := H)); (focus (simp only [go_sem, *]; rfl)); (focus trivial); (focus (repeat (first | assumption | exact Heap.sub_refl _ | refine Heap.sub_congr ?_ | refine Heap.sub_set ?_ (by assumption) | refine Heap.sub_set2 ?_ (by first | assumption | (simp only [*]; done) | (simp only [Heap.set_none', stH_none, ne_eq, *, not_false_eq_true, and_self]; done))))))))
              all_goals rfl
      · rw [Bool.not_eq_true] at hR
        rw [hR] at c1
        repeat' (first
    | (with_reducible apply run_seq)
    | ((with_reducible apply run_go); simp only [go_sem, *])
    | ((with_reducible apply run_cond_t); (focus (simp only [go_sem, *]; done)))
    | ((with_reducible apply runO_callF known36); simp only [go_sem, *]; refine (c0 _).use ?_; (with_reducible apply runO_go); simp only [go_sem, *])
    | ((with_reducible apply runO_callFG known43); (focus (simp only [go_sem, *]; rfl)); (focus (intro _; simp only [go_sem, *]; exact c1 _)); (with_reducible apply runO_go); simp only [go_sem, *])
    | ((with_reducible apply run_ret Try.func11 res11 (H' := H)); (focus (simp only [go_sem, *]; rfl)); (focus trivial); (focus (repeat (first | assumption | exact Heap.sub_refl _ | refine Heap.sub_congr ?_ | refine Heap.sub_set ?_ (by assumption) | refine Heap.sub_set2 ?_ (by first | assumption | (simp only [*]; done) | (simp only [Heap.set_none', stH_none, ne_eq, *, not_false_eq_true, and_self]; done)))))))
        rfl
    · have h2' : (row.length : Int) < 2 := by omega
      repeat' (first
    | (with_reducible apply run_seq)
    | ((with_reducible apply run_go); simp only [go_sem, *])
    | ((with_reducible apply run_cond_t); (focus (simp only [go_sem, *]; done)))
    | ((with_reducible apply runO_skipF); (focus (simp only [go_sem, *]; rfl)); (focus rfl); (with_reducible apply runO_go); simp only [go_sem, *])
    | ((with_reducible apply runO_callF known36); simp only [go_sem, *]; refine (c0 _).use ?_; (with_reducible apply runO_go); simp only [go_sem, *])
    | ((with_reducible apply run_ret Try.func11 res11 (H' := H)); (focus (simp only [go_sem, *]; rfl)); (focus trivial); (focus (repeat (first | assumption | exact Heap.sub_refl _ | refine Heap.sub_congr ?_ | refine Heap.sub_set ?_ (by assumption) | refine Heap.sub_set2 ?_ (by first | assumption | (simp only [*]; done) | (simp only [Heap.set_none', stH_none, ne_eq, *, not_false_eq_true, and_self]; done)))))))
      rfl
  · have hr' : (30 : Int) < (row.length : Int) := by omega
    repeat' (first
    | (with_reducible apply run_seq)
    | ((with_reducible apply run_go); simp only [go_sem, *])
    | ((with_reducible apply run_cond_t); (focus (simp only [go_sem, *]; done)))
    | ((with_reducible apply runO_skipF); (focus (simp only [go_sem, *]; rfl)); (focus rfl); (with_reducible apply runO_go); simp only [go_sem, *])
    | ((with_reducible apply runO_callF known36); simp only [go_sem, *]; refine (c0 _).use ?_; (with_reducible apply runO_go); simp only [go_sem, *])
    | ((with_reducible apply run_ret Try.func11 res11 (H' := H)); (focus (simp only [go_sem, *]; rfl)); (focus trivial); (focus (repeat (first | assumption | exact Heap.sub_refl _ | refine Heap.sub_congr ?_ | refine Heap.sub_set ?_ (by assumption) | refine Heap.sub_set2 ?_ (by first | assumption | (simp only [*]; done) | (simp only [Heap.set_none', stH_none, ne_eq, *, not_false_eq_true, and_self]; done)))))))
    all_goals rfl
end Go.Proofs.Ytobdagjdhgjplaa
