/-
  The law of what races are.
-/
import Derived.Test.YtobdagjdhgjplaaStRn
import Derived.Test.YtobdagjdhgjplaaRcH
set_option linter.unusedSimpArgs false
set_option linter.unusedVariables false
namespace Go.Proofs.Ytobdagjdhgjplaa
open Go Go.Sn Go.RowKit
-- NONE stH_none

theorem revE_len (l : List Ev) (hl : l.length ≤ 1000) : (revE l).length ≤ 1000000 := by
  unfold revE
  split
  · exact revP_le l (Nat.le_refl _) hl
  · simp
theorem rsE_len (s : St) (hs : OkSt s) (l : List Ev) (hl : l.length ≤ 1000) : (rsE s l).length ≤ 1000000 := by
  unfold rsE
  split
  · have := rsS_le s l (k := s.ts.length) (ok_len hs).1 hl; omega
  · simp

set_option maxRecDepth 100000 in
set_option maxHeartbeats 16000000 in
theorem raceTells_call (W : World) (H : Heap) (p : Pg) (fuel : Int) (th : List Int) (row : List Ev) (hp : p.th.length ≤ 4000000000000000) :
    CallA Try.prog W 8 [.agg (pgC p), .v (.int .i64 fuel), .list (intsC th), .list (evsC row)] H fun r H' => r = .v (.bool true) := by
  refine call_in Try.func8 rfl Try.ntmps8 (by simp) ?_
  have c0 := fun H => awake7_call W H
  have c1 := fun H => few_call W H p hp
  by_cases hf : fewP p = true
  · rw [hf] at c1
    have F := few_of hf
    have hc : ∀ c ∈ p.th, c.length ≤ 1000000 := fun c hc => by have := F.code c hc; omega
    have HC : Hid _ := hc
    clear hf F hc
    by_cases hl : th.length ≤ 40
    · have hl' : ¬ (40 : Int) < (th.length : Int) := by omega
      by_cases hr : row.length ≤ 40
      · have hr' : ¬ (40 : Int) < (row.length : Int) := by omega
        repeat' (first
    | (with_reducible apply run_seq)
    | (with_reducible apply run_block)
    | (with_reducible apply run_inBlock)
    | (with_reducible apply run_skip)
    | (with_reducible apply run_exit rfl)
    | ((with_reducible apply run_go); simp only [go_sem, *])
    | ((with_reducible apply run_cond_t); (focus (simp only [go_sem, *]; done)))
    | ((with_reducible apply run_cond_f); (focus (simp only [go_sem, *]; done)))
    | ((with_reducible apply run_cond); (focus (simp only [go_sem, *]; rfl)); (all_goals intro _))
    | ((with_reducible apply runO_box); (focus (simp only [go_sem, *]; done)); intro pb hpb; have hfb := Heap.ne_of_none hpb; (try simp only [Heap.set_none', stH_none] at hpb); (with_reducible apply runO_go); simp only [go_sem, *])
    | ((with_reducible apply runO_skipF); (focus (simp only [go_sem, *]; rfl)); (focus rfl); (with_reducible apply runO_go); simp only [go_sem, *])
    | ((first | (with_reducible apply runA_and) | (with_reducible apply runO_and) | (with_reducible apply runD_and)); (focus (first | assumption | (simp only [go_sem, *]; done) | (simp only [go_sem, *]; assumption))); (try simp only [go_sem, *]))
    | ((with_reducible apply runO_callF known36); simp only [go_sem, *]; refine (c0 _).use ?_; (with_reducible apply runO_go); simp only [go_sem, *])
    | ((with_reducible apply runO_callFG known23); (focus (simp only [go_sem, *]; rfl)); (focus (intro _; simp only [go_sem, *]; exact c1 _)); (with_reducible apply runO_go); simp only [go_sem, *])
    | ((with_reducible apply run_ret Try.func8 res8 (H' := H)); (focus (simp only [go_sem, *]; rfl)); (focus trivial); (focus (repeat (first | assumption | exact Heap.sub_refl _ | refine Heap.sub_congr ?_ | refine Heap.sub_set ?_ (by assumption) | refine Heap.sub_set2 ?_ (by first | assumption | (simp only [*]; done) | (simp only [Heap.set_none', stH_none, ne_eq, *, not_false_eq_true, and_self]; done)))))))
        clear c0 c1
        generalize pb = p3 at *
        have hsub0 : H.sub (H.set p3 (.cells (pgC p) 38)) := Heap.sub_set (Heap.sub_refl _) hpb
        have hq3 : (H.set p3 (.cells (pgC p) 38)) p3 = some (.cells (pgC p) 38) := Heap.set_same _ _ _
        generalize hK : H.set p3 (.cells (pgC p) 38) = K at *
        clear hfb hpb hK
        have v1 := fun H => rev_call W H row (by omega)
        have v2 := fun H => rRev_call W H row (by omega)
        have v3 := fun H => like_call W H (revE row) (revE_len row (by omega))
        have v4 := fun H => same7_call W H (revE row) (revE row) (revE_len row (by omega))
        rw [decide_eq_true rfl] at v4
        (with_reducible apply runO_callF known24); simp only [go_sem, *]
        refine (replay_call W K p fuel th HC.out (by omega)).mono (fun d1 H1 hh => ?_)
        have HRR : Hid (∀ (H : Heap), CallA Try.prog W 25 [.agg (pgC p), .v (.int .i64 fuel), .list (intsC th)] H (ReplR p fuel th H)) := fun H => rReplay_call W H p fuel th HC.out (by omega)
        rcases hh with ⟨hno, rfl, rfl⟩ | ⟨hok, hne0, rfl, rfl⟩ | ⟨hok, he0, lo, hlb, hlc, hne, hcap, rfl, rfl⟩
        · (with_reducible apply runO_go); simp only [go_sem, *]
          repeat' (first
    | (with_reducible apply run_seq)
    | (with_reducible apply run_block)
    | (with_reducible apply run_inBlock)
    | (with_reducible apply run_skip)
    | (with_reducible apply run_exit rfl)
    | ((with_reducible apply run_go); simp only [go_sem, *])
    | ((with_reducible apply run_cond_t); (focus (simp only [go_sem, *]; done)))
    | ((with_reducible apply run_cond_f); (focus (simp only [go_sem, *]; done)))
    | ((with_reducible apply run_cond); (focus (simp only [go_sem, *]; rfl)); (all_goals intro _))
    | ((with_reducible apply runO_box); (focus (simp only [go_sem, *]; done)); intro pb hpb; have hfb := Heap.ne_of_none hpb; (try simp only [Heap.set_none', stH_none] at hpb); (with_reducible apply runO_go); simp only [go_sem, *])
    | ((with_reducible apply runO_skipF); (focus (simp only [go_sem, *]; rfl)); (focus rfl); (with_reducible apply runO_go); simp only [go_sem, *])
    | ((first | (with_reducible apply runA_and) | (with_reducible apply runO_and) | (with_reducible apply runD_and)); (focus (first | assumption | (simp only [go_sem, *]; done) | (simp only [go_sem, *]; assumption))); (try simp only [go_sem, *]))
    | ((with_reducible apply run_ret Try.func8 res8 (H' := H)); (focus (simp only [go_sem, *]; rfl)); (focus trivial); (focus (repeat (first | assumption | exact Heap.sub_refl _ | refine Heap.sub_congr ?_ | refine Heap.sub_set ?_ (by assumption) | refine Heap.sub_set2 ?_ (by first | assumption | (simp only [*]; done) | (simp only [Heap.set_none', stH_none, ne_eq, *, not_false_eq_true, and_self]; done)))))))
          (with_reducible apply runO_callF known25); simp only [go_sem, *]
          refine (HRR.out _).mono (fun d3 H3 hh => ?_)
          rcases hh with ⟨_, rfl, rfl⟩ | ⟨hok, _⟩ | ⟨hok, _⟩
          · (with_reducible apply runO_go); simp only [go_sem, *]
            repeat' (first
    | (with_reducible apply run_seq)
    | (with_reducible apply run_block)
    | (with_reducible apply run_inBlock)
    | (with_reducible apply run_skip)
    | (with_reducible apply run_exit rfl)
    | ((with_reducible apply run_go); simp only [go_sem, *])
    | ((with_reducible apply run_cond_t); (focus (simp only [go_sem, *]; done)))
    | ((with_reducible apply run_cond_f); (focus (simp only [go_sem, *]; done)))
    | ((with_reducible apply run_cond); (focus (simp only [go_sem, *]; rfl)); (all_goals intro _))
    | ((with_reducible apply runO_box); (focus (simp only [go_sem, *]; done)); intro pb hpb; have hfb := Heap.ne_of_none hpb; (try simp only [Heap.set_none', stH_none] at hpb); (with_reducible apply runO_go); simp only [go_sem, *])
    | ((with_reducible apply runO_skipF); (focus (simp only [go_sem, *]; rfl)); (focus rfl); (with_reducible apply runO_go); simp only [go_sem, *])
    | ((first | (with_reducible apply runA_and) | (with_reducible apply runO_and) | (with_reducible apply runD_and)); (focus (first | assumption | (simp only [go_sem, *]; done) | (simp only [go_sem, *]; assumption))); (try simp only [go_sem, *]))
    | ((with_reducible apply runO_callFG known39); (focus (simp only [go_sem, *]; rfl)); (focus (intro _; simp only [go_sem, *]; exact v1 _)); (with_reducible apply runO_go); simp only [go_sem, *])
    | ((with_reducible apply runO_callFG known40); (focus (simp only [go_sem, *]; rfl)); (focus (intro _; simp only [go_sem, *]; exact v2 _)); (with_reducible apply runO_go); simp only [go_sem, *])
    | ((with_reducible apply runO_callFG known38); (focus (simp only [go_sem, *]; rfl)); (focus (intro _; simp only [go_sem, *]; exact v3 _)); (with_reducible apply runO_go); simp only [go_sem, *])
    | ((with_reducible apply runO_callFG known37); (focus (simp only [go_sem, *]; rfl)); (focus (intro _; simp only [go_sem, *]; exact v4 _)); (with_reducible apply runO_go); simp only [go_sem, *])
    | ((with_reducible apply run_ret Try.func8 res8 (H' := H)); (focus (simp only [go_sem, *]; rfl)); (focus trivial); (focus (repeat (first | assumption | exact Heap.sub_refl _ | refine Heap.sub_congr ?_ | refine Heap.sub_set ?_ (by assumption) | refine Heap.sub_set2 ?_ (by first | assumption | (simp only [*]; done) | (simp only [Heap.set_none', stH_none, ne_eq, *, not_false_eq_true, and_self]; done)))))))
            rfl
          · rw [hno] at hok; cases hok
          · rw [hno] at hok; cases hok
        · (with_reducible apply runO_go); simp only [go_sem, *]
          generalize her : (rpl (newS p fuel) th).1 = er at *
          have HER : Hid _ := her
          have HNE : Hid _ := hne0
          clear her
          repeat' (first
    | (with_reducible apply run_seq)
    | (with_reducible apply run_block)
    | (with_reducible apply run_inBlock)
    | (with_reducible apply run_skip)
    | (with_reducible apply run_exit rfl)
    | ((with_reducible apply run_go); simp only [go_sem, *])
    | ((with_reducible apply run_cond_t); (focus (simp only [go_sem, *]; done)))
    | ((with_reducible apply run_cond_f); (focus (simp only [go_sem, *]; done)))
    | ((with_reducible apply run_cond); (focus (simp only [go_sem, *]; rfl)); (all_goals intro _))
    | ((with_reducible apply runO_box); (focus (simp only [go_sem, *]; done)); intro pb hpb; have hfb := Heap.ne_of_none hpb; (try simp only [Heap.set_none', stH_none] at hpb); (with_reducible apply runO_go); simp only [go_sem, *])
    | ((with_reducible apply runO_skipF); (focus (simp only [go_sem, *]; rfl)); (focus rfl); (with_reducible apply runO_go); simp only [go_sem, *])
    | ((first | (with_reducible apply runA_and) | (with_reducible apply runO_and) | (with_reducible apply runD_and)); (focus (first | assumption | (simp only [go_sem, *]; done) | (simp only [go_sem, *]; assumption))); (try simp only [go_sem, *]))
    | ((with_reducible apply run_ret Try.func8 res8 (H' := H)); (focus (simp only [go_sem, *]; rfl)); (focus trivial); (focus (repeat (first | assumption | exact Heap.sub_refl _ | refine Heap.sub_congr ?_ | refine Heap.sub_set ?_ (by assumption) | refine Heap.sub_set2 ?_ (by first | assumption | (simp only [*]; done) | (simp only [Heap.set_none', stH_none, ne_eq, *, not_false_eq_true, and_self]; done)))))))
          (with_reducible apply runO_callF known25); simp only [go_sem, *]
          refine (HRR.out _).mono (fun d3 H3 hh => ?_)
          rcases hh with ⟨hno, _⟩ | ⟨_, _, rfl, rfl⟩ | ⟨_, he0, _⟩
          · rw [hok] at hno; cases hno
          · rw [HER.out]
            (with_reducible apply runO_go); simp only [go_sem, *]
            repeat' (first
    | (with_reducible apply run_seq)
    | (with_reducible apply run_block)
    | (with_reducible apply run_inBlock)
    | (with_reducible apply run_skip)
    | (with_reducible apply run_exit rfl)
    | ((with_reducible apply run_go); simp only [go_sem, *])
    | ((with_reducible apply run_cond_t); (focus (simp only [go_sem, *]; done)))
    | ((with_reducible apply run_cond_f); (focus (simp only [go_sem, *]; done)))
    | ((with_reducible apply run_cond); (focus (simp only [go_sem, *]; rfl)); (all_goals intro _))
    | ((with_reducible apply runO_box); (focus (simp only [go_sem, *]; done)); intro pb hpb; have hfb := Heap.ne_of_none hpb; (try simp only [Heap.set_none', stH_none] at hpb); (with_reducible apply runO_go); simp only [go_sem, *])
    | ((with_reducible apply runO_skipF); (focus (simp only [go_sem, *]; rfl)); (focus rfl); (with_reducible apply runO_go); simp only [go_sem, *])
    | ((first | (with_reducible apply runA_and) | (with_reducible apply runO_and) | (with_reducible apply runD_and)); (focus (first | assumption | (simp only [go_sem, *]; done) | (simp only [go_sem, *]; assumption))); (try simp only [go_sem, *]))
    | ((with_reducible apply runO_callFG known39); (focus (simp only [go_sem, *]; rfl)); (focus (intro _; simp only [go_sem, *]; exact v1 _)); (with_reducible apply runO_go); simp only [go_sem, *])
    | ((with_reducible apply runO_callFG known40); (focus (simp only [go_sem, *]; rfl)); (focus (intro _; simp only [go_sem, *]; exact v2 _)); (with_reducible apply runO_go); simp only [go_sem, *])
    | ((with_reducible apply runO_callFG known38); (focus (simp only [go_sem, *]; rfl)); (focus (intro _; simp only [go_sem, *]; exact v3 _)); (with_reducible apply runO_go); simp only [go_sem, *])
    | ((with_reducible apply runO_callFG known37); (focus (simp only [go_sem, *]; rfl)); (focus (intro _; simp only [go_sem, *]; exact v4 _)); (with_reducible apply runO_go); simp only [go_sem, *])
    | ((with_reducible apply run_ret Try.func8 res8 (H' := H)); (focus (simp only [go_sem, *]; rfl)); (focus trivial); (focus (repeat (first | assumption | exact Heap.sub_refl _ | refine Heap.sub_congr ?_ | refine Heap.sub_set ?_ (by assumption) | refine Heap.sub_set2 ?_ (by first | assumption | (simp only [*]; done) | (simp only [Heap.set_none', stH_none, ne_eq, *, not_false_eq_true, and_self]; done)))))))
            rfl
          · rw [HER.out] at he0; exact absurd he0 HNE.out
        · have hokr := ok_rpl th (okN_ok hok)
          have hrl := rpl_len th (newS p fuel)
          rw [show (newS p fuel).p = p from rfl] at hokr
          have HX : Hid (∀ (H : Heap) d H', ReplR p fuel th H d H' → ∃ l : Lo, H l.b = none ∧ H l.c = none ∧ l.b ≠ l.c ∧ p.th.length ≤ l.cap ∧
              d = .tup [.v (.pointer (some ⟨l.b, 0, none⟩)), .list (evsC (rpl (newS p fuel) th).2.1), .v (.int .i64 0)] ∧ H' = stR H l (rpl (newS p fuel) th).2.2) := fun H d H' h => by
            rcases h with ⟨hno, _⟩ | ⟨_, h0, _⟩ | ⟨_, _, h⟩
            · rw [hok] at hno; cases hno
            · exact absurd he0 h0
            · exact h
          clear hok he0
          generalize rpl (newS p fuel) th = r0 at *
          obtain ⟨x1, l, s⟩ := r0
          simp only at hokr hrl
          obtain ⟨hs, hsp⟩ := hokr
          have htl : s.ts.length = p.th.length := by rw [hs.len, hsp]
          have hat : AtP (stP K lo s) lo s := stH_at hne (by rw [htl]; exact hcap)
          have hsub1 : K.sub (stP K lo s) := stH_subH hlb hlc
          have hq4 := hsub1 _ _ hq3
          have hsub2 := hsub0.trans hsub1
          have HS : Hid _ := hs
          have HCAP : Hid (∀ l2 : Lo, p.th.length ≤ l2.cap → s.ts.length ≤ l2.cap) := fun l2 h => by rw [htl]; exact h
          clear hs hsp htl hlb hlc hne hcap hsub0 hsub1 hq3
          (with_reducible apply runO_go); simp only [go_sem, *]
          generalize stP K lo s = V at *
          repeat' (first
    | (with_reducible apply run_seq)
    | (with_reducible apply run_block)
    | (with_reducible apply run_inBlock)
    | (with_reducible apply run_skip)
    | (with_reducible apply run_exit rfl)
    | ((with_reducible apply run_go); simp only [go_sem, *])
    | ((with_reducible apply run_cond_t); (focus (simp only [go_sem, *]; done)))
    | ((with_reducible apply run_cond_f); (focus (simp only [go_sem, *]; done)))
    | ((with_reducible apply run_cond); (focus (simp only [go_sem, *]; rfl)); (all_goals intro _))
    | ((with_reducible apply runO_box); (focus (simp only [go_sem, *]; done)); intro pb hpb; have hfb := Heap.ne_of_none hpb; (try simp only [Heap.set_none', stH_none] at hpb); (with_reducible apply runO_go); simp only [go_sem, *])
    | ((with_reducible apply runO_skipF); (focus (simp only [go_sem, *]; rfl)); (focus rfl); (with_reducible apply runO_go); simp only [go_sem, *])
    | ((first | (with_reducible apply runA_and) | (with_reducible apply runO_and) | (with_reducible apply runD_and)); (focus (first | assumption | (simp only [go_sem, *]; done) | (simp only [go_sem, *]; assumption))); (try simp only [go_sem, *]))
    | ((with_reducible apply run_ret Try.func8 res8 (H' := H)); (focus (simp only [go_sem, *]; rfl)); (focus trivial); (focus (repeat (first | assumption | exact Heap.sub_refl _ | refine Heap.sub_congr ?_ | refine Heap.sub_set ?_ (by assumption) | refine Heap.sub_set2 ?_ (by first | assumption | (simp only [*]; done) | (simp only [Heap.set_none', stH_none, ne_eq, *, not_false_eq_true, and_self]; done)))))))
          (with_reducible apply runO_callF known25); simp only [go_sem, *]
          refine (HRR.out _).mono (fun d3 H3 hh => ?_)
          obtain ⟨l2, hlb, hlc, hne, hcap, rfl, rfl⟩ := HX.out _ _ _ hh
          have hat2 : AtR (stR V l2 s) l2 s := stH_at hne (HCAP.out l2 hcap)
          have hsub3 : V.sub (stR V l2 s) := stH_subH hlb hlc
          have hat1 := hat.mono hsub3
          have hsub4 := hsub2.trans hsub3
          clear hat hsub2 hsub3 hlb hlc hcap hne hq4 HCAP HX hh
          (with_reducible apply runO_go); simp only [go_sem, *]
          generalize stR V l2 s = U at *
          have f1 := races_call W U lo s hat1 HS.out l (by omega)
          have f2 := rRaces_call W U l2 s hat2 HS.out l (by omega)
          have f3 := races_call W U lo s hat1 HS.out row (by omega)
          have f4 := rRaces_call W U l2 s hat2 HS.out row (by omega)
          have g1 := like_call W U (rsE s l) (rsE_len s HS.out l (by omega))
          have g2 := same7_call W U (rsE s l) (rsE s l) (rsE_len s HS.out l (by omega))
          have g3 := like_call W U (rsE s row) (rsE_len s HS.out row (by omega))
          have g4 := same7_call W U (rsE s row) (rsE s row) (rsE_len s HS.out row (by omega))
          rw [decide_eq_true rfl] at g2 g4
          clear hat1 hat2
          repeat' (first
    | (with_reducible apply run_seq)
    | (with_reducible apply run_block)
    | (with_reducible apply run_inBlock)
    | (with_reducible apply run_skip)
    | (with_reducible apply run_exit rfl)
    | ((with_reducible apply run_go); simp only [go_sem, *])
    | ((with_reducible apply run_cond_t); (focus (simp only [go_sem, *]; done)))
    | ((with_reducible apply run_cond_f); (focus (simp only [go_sem, *]; done)))
    | ((with_reducible apply run_cond); (focus (simp only [go_sem, *]; rfl)); (all_goals intro _))
    | ((with_reducible apply runO_box); (focus (simp only [go_sem, *]; done)); intro pb hpb; have hfb := Heap.ne_of_none hpb; (try simp only [Heap.set_none', stH_none] at hpb); (with_reducible apply runO_go); simp only [go_sem, *])
    | ((with_reducible apply runO_skipF); (focus (simp only [go_sem, *]; rfl)); (focus rfl); (with_reducible apply runO_go); simp only [go_sem, *])
    | ((first | (with_reducible apply runA_and) | (with_reducible apply runO_and) | (with_reducible apply runD_and)); (focus (first | assumption | (simp only [go_sem, *]; done) | (simp only [go_sem, *]; assumption))); (try simp only [go_sem, *]))
    | ((with_reducible apply runO_callFG known39); (focus (simp only [go_sem, *]; rfl)); (focus (intro _; simp only [go_sem, *]; exact v1 _)); (with_reducible apply runO_go); simp only [go_sem, *])
    | ((with_reducible apply runO_callFG known40); (focus (simp only [go_sem, *]; rfl)); (focus (intro _; simp only [go_sem, *]; exact v2 _)); (with_reducible apply runO_go); simp only [go_sem, *])
    | ((with_reducible apply runO_callFG known38); (focus (simp only [go_sem, *]; rfl)); (focus (intro _; simp only [go_sem, *]; exact v3 _)); (with_reducible apply runO_go); simp only [go_sem, *])
    | ((with_reducible apply runO_callFG known37); (focus (simp only [go_sem, *]; rfl)); (focus (intro _; simp only [go_sem, *]; exact v4 _)); (with_reducible apply runO_go); simp only [go_sem, *])
    | ((with_reducible apply runO_callFG known41); (focus (simp only [go_sem, *]; rfl)); (focus (intro _; simp only [go_sem, *]; exact f1)); (with_reducible apply runO_go); simp only [go_sem, *])
    | ((with_reducible apply runO_callFG known42); (focus (simp only [go_sem, *]; rfl)); (focus (intro _; simp only [go_sem, *]; exact f2)); (with_reducible apply runO_go); simp only [go_sem, *])
    | ((with_reducible apply runO_callFG known41); (focus (simp only [go_sem, *]; rfl)); (focus (intro _; simp only [go_sem, *]; exact f3)); (with_reducible apply runO_go); simp only [go_sem, *])
    | ((with_reducible apply runO_callFG known42); (focus (simp only [go_sem, *]; rfl)); (focus (intro _; simp only [go_sem, *]; exact f4)); (with_reducible apply runO_go); simp only [go_sem, *])
    | ((with_reducible apply runO_callFG known38); (focus (simp only [go_sem, *]; rfl)); (focus (intro _; simp only [go_sem, *]; exact g1)); (with_reducible apply runO_go); simp only [go_sem, *])
    | ((with_reducible apply runO_callFG known37); (focus (simp only [go_sem, *]; rfl)); (focus (intro _; simp only [go_sem, *]; exact g2)); (with_reducible apply runO_go); simp only [go_sem, *])
    | ((with_reducible apply runO_callFG known38); (focus (simp only [go_sem, *]; rfl)); (focus (intro _; simp only [go_sem, *]; exact g3)); (with_reducible apply runO_go); simp only [go_sem, *])
    | ((with_reducible apply runO_callFG known37); (focus (simp only [go_sem, *]; rfl)); (focus (intro _; simp only [go_sem, *]; exact g4)); (with_reducible apply runO_go); simp only [go_sem, *])
    | ((with_reducible apply run_ret Try.func8 res8 (H' := U)); (focus (simp only [go_sem, *]; rfl)); (focus trivial); (focus (repeat (first | assumption | exact Heap.sub_refl _ | refine Heap.sub_congr ?_ | refine Heap.sub_set ?_ (by assumption) | refine Heap.sub_set2 ?_ (by first | assumption | (simp only [*]; done) | (simp only [Heap.set_none', stH_none, ne_eq, *, not_false_eq_true, and_self]; done))))))
    | ((with_reducible apply run_ret Try.func8 res8 (H' := H)); (focus (simp only [go_sem, *]; rfl)); (focus trivial); (focus (repeat (first | assumption | exact Heap.sub_refl _ | refine Heap.sub_congr ?_ | refine Heap.sub_set ?_ (by assumption) | refine Heap.sub_set2 ?_ (by first | assumption | (simp only [*]; done) | (simp only [Heap.set_none', stH_none, ne_eq, *, not_false_eq_true, and_self]; done)))))))
          rfl
      · have hr' : (40 : Int) < (row.length : Int) := by omega
        repeat' (first
    | (with_reducible apply run_seq)
    | (with_reducible apply run_block)
    | (with_reducible apply run_inBlock)
    | (with_reducible apply run_skip)
    | (with_reducible apply run_exit rfl)
    | ((with_reducible apply run_go); simp only [go_sem, *])
    | ((with_reducible apply run_cond_t); (focus (simp only [go_sem, *]; done)))
    | ((with_reducible apply run_cond_f); (focus (simp only [go_sem, *]; done)))
    | ((with_reducible apply run_cond); (focus (simp only [go_sem, *]; rfl)); (all_goals intro _))
    | ((with_reducible apply runO_box); (focus (simp only [go_sem, *]; done)); intro pb hpb; have hfb := Heap.ne_of_none hpb; (try simp only [Heap.set_none', stH_none] at hpb); (with_reducible apply runO_go); simp only [go_sem, *])
    | ((with_reducible apply runO_skipF); (focus (simp only [go_sem, *]; rfl)); (focus rfl); (with_reducible apply runO_go); simp only [go_sem, *])
    | ((first | (with_reducible apply runA_and) | (with_reducible apply runO_and) | (with_reducible apply runD_and)); (focus (first | assumption | (simp only [go_sem, *]; done) | (simp only [go_sem, *]; assumption))); (try simp only [go_sem, *]))
    | ((with_reducible apply runO_callF known36); simp only [go_sem, *]; refine (c0 _).use ?_; (with_reducible apply runO_go); simp only [go_sem, *])
    | ((with_reducible apply runO_callFG known23); (focus (simp only [go_sem, *]; rfl)); (focus (intro _; simp only [go_sem, *]; exact c1 _)); (with_reducible apply runO_go); simp only [go_sem, *])
    | ((with_reducible apply run_ret Try.func8 res8 (H' := H)); (focus (simp only [go_sem, *]; rfl)); (focus trivial); (focus (repeat (first | assumption | exact Heap.sub_refl _ | refine Heap.sub_congr ?_ | refine Heap.sub_set ?_ (by assumption) | refine Heap.sub_set2 ?_ (by first | assumption | (simp only [*]; done) | (simp only [Heap.set_none', stH_none, ne_eq, *, not_false_eq_true, and_self]; done)))))))
        rfl
    · have hl' : (40 : Int) < (th.length : Int) := by omega
      repeat' (first
    | (with_reducible apply run_seq)
    | (with_reducible apply run_block)
    | (with_reducible apply run_inBlock)
    | (with_reducible apply run_skip)
    | (with_reducible apply run_exit rfl)
    | ((with_reducible apply run_go); simp only [go_sem, *])
    | ((with_reducible apply run_cond_t); (focus (simp only [go_sem, *]; done)))
    | ((with_reducible apply run_cond_f); (focus (simp only [go_sem, *]; done)))
    | ((with_reducible apply run_cond); (focus (simp only [go_sem, *]; rfl)); (all_goals intro _))
    | ((with_reducible apply runO_box); (focus (simp only [go_sem, *]; done)); intro pb hpb; have hfb := Heap.ne_of_none hpb; (try simp only [Heap.set_none', stH_none] at hpb); (with_reducible apply runO_go); simp only [go_sem, *])
    | ((with_reducible apply runO_skipF); (focus (simp only [go_sem, *]; rfl)); (focus rfl); (with_reducible apply runO_go); simp only [go_sem, *])
    | ((first | (with_reducible apply runA_and) | (with_reducible apply runO_and) | (with_reducible apply runD_and)); (focus (first | assumption | (simp only [go_sem, *]; done) | (simp only [go_sem, *]; assumption))); (try simp only [go_sem, *]))
    | ((with_reducible apply runO_callF known36); simp only [go_sem, *]; refine (c0 _).use ?_; (with_reducible apply runO_go); simp only [go_sem, *])
    | ((with_reducible apply runO_callFG known23); (focus (simp only [go_sem, *]; rfl)); (focus (intro _; simp only [go_sem, *]; exact c1 _)); (with_reducible apply runO_go); simp only [go_sem, *])
    | ((with_reducible apply run_ret Try.func8 res8 (H' := H)); (focus (simp only [go_sem, *]; rfl)); (focus trivial); (focus (repeat (first | assumption | exact Heap.sub_refl _ | refine Heap.sub_congr ?_ | refine Heap.sub_set ?_ (by assumption) | refine Heap.sub_set2 ?_ (by first | assumption | (simp only [*]; done) | (simp only [Heap.set_none', stH_none, ne_eq, *, not_false_eq_true, and_self]; done)))))))
      all_goals rfl
  · rw [Bool.not_eq_true] at hf
    rw [hf] at c1
    repeat' (first
    | (with_reducible apply run_seq)
    | (with_reducible apply run_block)
    | (with_reducible apply run_inBlock)
    | (with_reducible apply run_skip)
    | (with_reducible apply run_exit rfl)
    | ((with_reducible apply run_go); simp only [go_sem, *])
    | ((with_reducible apply run_cond_t); (focus (simp only [go_sem, *]; done)))
    | ((with_reducible apply run_cond_f); (focus (simp only [go_sem, *]; done)))
    | ((with_reducible apply run_cond); (focus (simp only [go_sem, *]; rfl)); (all_goals intro _))
    | ((with_reducible apply runO_box); (focus (simp only [go_sem, *]; done)); intro pb hpb; have hfb := Heap.ne_of_none hpb; (try simp only [Heap.set_none', stH_none] at hpb); (with_reducible apply runO_go); simp only [go_sem, *])
    | ((with_reducible apply runO_skipF); (focus (simp only [go_sem, *]; rfl)); (focus rfl); (with_reducible apply runO_go); simp only [go_sem, *])
    | ((first | (with_reducible apply runA_and) | (with_reducible apply runO_and) | (with_reducible apply runD_and)); (focus (first | assumption | (simp only [go_sem, *]; done) | (simp only [go_sem, *]; assumption))); (try simp only [go_sem, *]))
    | ((with_reducible apply runO_callF known36); simp only [go_sem, *]; refine (c0 _).use ?_; (with_reducible apply runO_go); simp only [go_sem, *])
    | ((with_reducible apply runO_callFG known23); (focus (simp only [go_sem, *]; rfl)); (focus (intro _; simp only [go_sem, *]; exact c1 _)); (with_reducible apply runO_go); simp only [go_sem, *])
    | ((with_reducible apply run_ret Try.func8 res8 (H' := H)); (focus (simp only [go_sem, *]; rfl)); (focus trivial); (focus (repeat (first | assumption | exact Heap.sub_refl _ | refine Heap.sub_congr ?_ | refine Heap.sub_set ?_ (by assumption) | refine Heap.sub_set2 ?_ (by first | assumption | (simp only [*]; done) | (simp only [Heap.set_none', stH_none, ne_eq, *, not_false_eq_true, and_self]; done)))))))
    all_goals rfl
end Go.Proofs.Ytobdagjdhgjplaa
