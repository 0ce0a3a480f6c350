/-
  The law of who sleeps behind a step.
-/
import Derived.Test.YtobdagjdhgjplaaSlE
import Derived.Test.YtobdagjdhgjplaaSlF
set_option linter.unusedSimpArgs false
set_option linter.unusedVariables false
namespace Go.Proofs.Ytobdagjdhgjplaa
open Go Go.Sn Go.RowKit
-- NONE stH_none

theorem allB_of {s : BitVec 8} {f : Nat → Bool} (h : ∀ k : Nat, k < 8 → hasE s (k : Int) = f k) : allB s 8 = ((List.range 8).filter f).map fun j : Nat => (j : Int) := by
  unfold allB
  congr 1
  exact List.filter_congr fun k hk => h k (List.mem_range.1 hk)
theorem child_law (s : St) (sa ea : BitVec 8) (t : Int) : allB (chE s sa ea t) 8 = chD s (allB sa 8) (allB ea 8) t := by
  unfold chE chD
  cases hh : s.has t with
  | false => simp only [Bool.false_eq_true, if_false]; decide
  | true =>
    simp only [if_true]
    refine allB_of fun k hk8 => ?_
    unfold chK chC
    rw [has_fold _ _ _ hk8, has_0, in_allB, in_allB, in_allB, has_not, has_or, has_one t hk8]
    unfold okC
    rw [dep_eq]
    have e3 : decide (t = (k : Int)) = decide ((k : Int) = t) := decide_eq_decide.2 ⟨fun e => e.symm, fun e => e.symm⟩
    rw [e3]
    cases hasE sa (k : Int) <;> cases hasE ea (k : Int) <;> cases decide ((k : Int) = t) <;> cases s.has (k : Int) <;> rfl
theorem of_nil {L : List Int} (h : ∀ x ∈ L, ∃ k : Nat, k < 8 ∧ x = (k : Int)) : ofB L = 0#8 ↔ L = [] := by
  constructor
  · intro e
    cases L with
    | nil => rfl
    | cons x L =>
      obtain ⟨k, hk, rfl⟩ := h x (List.mem_cons_self ..)
      have h1 := has_of ((k : Int) :: L) hk
      rw [e, has_0] at h1
      simp at h1
  · rintro rfl; rfl
theorem blocked_law {s : St} (hs : OkSt s) (sa : BitVec 8) : blkE s sa = (s.all.all (fun x => decide (x ∈ allB sa 8)) && decide (0 < s.all.length)) := by
  have hmem : ∀ x ∈ s.all, ∃ k : Nat, k < 8 ∧ x = (k : Int) := fun x hx => by
    unfold St.all at hx
    obtain ⟨k, hk, rfl⟩ := List.mem_map.1 hx
    have := List.mem_range.1 (List.mem_filter.1 hk).1
    have := (ok_len hs).1
    exact ⟨k, by omega, rfl⟩
  unfold blkE
  generalize s.all = L at *
  have e1 : decide (¬ ofB L = 0#8) = decide (0 < L.length) := decide_eq_decide.2 (by rw [of_nil hmem]; cases L <;> simp)
  have e2 : decide (ofB L &&& ~~~ sa = 0#8) = L.all fun x => decide (x ∈ allB sa 8) := by
    rw [Bool.eq_iff_iff, decide_eq_true_eq, List.all_eq_true]
    constructor
    · intro e x hx
      obtain ⟨k, hk, rfl⟩ := hmem x hx
      have h1 := has_not (ofB L) sa (k : Int)
      rw [e, has_0, has_of L hk, decide_eq_true hx] at h1
      rw [in_allB]
      simpa using h1.symm
    · intro h
      refine set_ext fun k hk => ?_
      rw [has_not, has_0, has_of L hk]
      by_cases hx : (k : Int) ∈ L
      · have := h _ hx
        rw [in_allB] at this
        rw [this]
        simp
      · simp [hx]
  rw [e1, e2, Bool.and_comm]
set_option maxRecDepth 100000 in
set_option maxHeartbeats 16000000 in
theorem sleepTells_call (W : World) (H : Heap) (p : Pg) (fuel : Int) (row : List Int) (a b : BitVec 8) (t : Int) (hp : p.th.length ≤ 4000000000000000) :
    CallA Try.prog W 5 [.agg (pgC p), .v (.int .i64 fuel), .list (intsC row), .v (.int .u8 (a.toNat : Int)), .v (.int .u8 (b.toNat : Int)), .v (.int .i64 t)] H fun r H' => r = .v (.bool true) := by
  refine call_in Try.func5 rfl Try.ntmps5 (by simp) ?_
  have c0 := fun H => awake8_call W H
  have c1 := fun H => few_call W H p hp
  by_cases hf : fewP p = true
  · rw [hf] at c1
    have F := few_of hf
    have hc : ∀ c ∈ p.th, c.length ≤ 1000000 := fun c hc => by have := F.code c hc; omega
    have HC : Hid _ := hc
    clear hf F hc
    by_cases hl : row.length ≤ 40
    · have hl' : ¬ (40 : Int) < (row.length : Int) := by omega
      repeat' (first
    | (with_reducible apply run_seq)
    | (with_reducible apply run_block)
    | (with_reducible apply run_inBlock)
    | (with_reducible apply run_skip)
    | (with_reducible apply run_exit rfl)
    | ((with_reducible apply run_go); simp only [go_sem, *])
    | ((with_reducible apply run_cond_t); (focus (simp only [go_sem, *]; done)))
    | ((with_reducible apply run_cond_f); (focus (simp only [go_sem, *]; done)))
    | ((with_reducible apply run_cond); (focus (simp only [go_sem, *]; rfl)); (all_goals intro _))
    | ((with_reducible apply runO_box); (focus (simp only [go_sem, *]; done)); intro pb hpb; have hfb := Heap.ne_of_none hpb; (try simp only [Heap.set_none', stH_none] at hpb); (with_reducible apply runO_go); simp only [go_sem, *])
    | ((with_reducible apply runO_skipF); (focus (simp only [go_sem, *]; rfl)); (focus rfl); (with_reducible apply runO_go); simp only [go_sem, *])
    | ((first | (with_reducible apply runA_and) | (with_reducible apply runO_and) | (with_reducible apply runD_and)); (focus (first | assumption | (simp only [go_sem, *]; done) | (simp only [go_sem, *]; assumption))); (try simp only [go_sem, *]))
    | ((with_reducible apply runO_callF known12); simp only [go_sem, *]; refine (c0 _).use ?_; (with_reducible apply runO_go); simp only [go_sem, *])
        | ((with_reducible apply runO_callFG known23); (focus (simp only [go_sem, *]; rfl)); (focus (intro _; simp only [go_sem, *]; exact c1 _)); (with_reducible apply runO_go); simp only [go_sem, *])
    | ((with_reducible apply run_ret Try.func5 res5 (H' := H)); (focus (simp only [go_sem, *]; rfl)); (focus trivial); (focus (repeat (first | assumption | exact Heap.sub_refl _ | refine Heap.sub_congr ?_ | refine Heap.sub_set ?_ (by assumption) | refine Heap.sub_set2 ?_ (by first | assumption | (simp only [*]; done) | (simp only [Heap.set_none', stH_none, ne_eq, *, not_false_eq_true, and_self]; done)))))))
      clear c0 c1
      generalize pb = p3 at *
      have hsub0 : H.sub (H.set p3 (.cells (pgC p) 38)) := Heap.sub_set (Heap.sub_refl _) hpb
      have hq3 : (H.set p3 (.cells (pgC p) 38)) p3 = some (.cells (pgC p) 38) := Heap.set_same _ _ _
      generalize hK : H.set p3 (.cells (pgC p) 38) = K at *
      clear hfb hpb hK
      have wa : IntKind.i64.wrap (a.toNat : Int) = (a.toNat : Int) := by have := a.isLt; exact wrapP (by omega) (by omega)
      have wb : IntKind.i64.wrap (b.toNat : Int) = (b.toNat : Int) := by have := b.isLt; exact wrapP (by omega) (by omega)
      have d1 := fun H => bits_call W H a
      have d2 := fun H => bits_call W H b
      have ha8 := allB_len a 8
      have hb8 := allB_len b 8
      (with_reducible apply runO_callF known24); simp only [go_sem, *]
      refine (replay_call W K p fuel row HC.out (by omega)).mono (fun d1 H1 hh => ?_)
      have HR := rReplay_call W
      have HRR : Hid (∀ (H : Heap), CallA Try.prog W 25 [.agg (pgC p), .v (.int .i64 fuel), .list (intsC row)] H (ReplR p fuel row H)) := fun H => HR H p fuel row HC.out (by omega)
      clear HR
      rcases hh with ⟨hno, rfl, rfl⟩ | ⟨hok, hne0, rfl, rfl⟩ | ⟨hok, he0, lo, hlb, hlc, hne, hcap, rfl, rfl⟩
      · (with_reducible apply runO_go); simp only [go_sem, *]
        repeat' (first
    | (with_reducible apply run_seq)
    | (with_reducible apply run_block)
    | (with_reducible apply run_inBlock)
    | (with_reducible apply run_skip)
    | (with_reducible apply run_exit rfl)
    | ((with_reducible apply run_go); simp only [go_sem, *])
    | ((with_reducible apply run_cond_t); (focus (simp only [go_sem, *]; done)))
    | ((with_reducible apply run_cond_f); (focus (simp only [go_sem, *]; done)))
    | ((with_reducible apply run_cond); (focus (simp only [go_sem, *]; rfl)); (all_goals intro _))
    | ((with_reducible apply runO_box); (focus (simp only [go_sem, *]; done)); intro pb hpb; have hfb := Heap.ne_of_none hpb; (try simp only [Heap.set_none', stH_none] at hpb); (with_reducible apply runO_go); simp only [go_sem, *])
    | ((with_reducible apply runO_skipF); (focus (simp only [go_sem, *]; rfl)); (focus rfl); (with_reducible apply runO_go); simp only [go_sem, *])
    | ((first | (with_reducible apply runA_and) | (with_reducible apply runO_and) | (with_reducible apply runD_and)); (focus (first | assumption | (simp only [go_sem, *]; done) | (simp only [go_sem, *]; assumption))); (try simp only [go_sem, *]))
    | ((with_reducible apply run_ret Try.func5 res5 (H' := H)); (focus (simp only [go_sem, *]; rfl)); (focus trivial); (focus (repeat (first | assumption | exact Heap.sub_refl _ | refine Heap.sub_congr ?_ | refine Heap.sub_set ?_ (by assumption) | refine Heap.sub_set2 ?_ (by first | assumption | (simp only [*]; done) | (simp only [Heap.set_none', stH_none, ne_eq, *, not_false_eq_true, and_self]; done)))))))
        (with_reducible apply runO_callF known25); simp only [go_sem, *]
        refine (HRR.out _).mono (fun d3 H3 hh => ?_)
        rcases hh with ⟨_, rfl, rfl⟩ | ⟨hok, _⟩ | ⟨hok, _⟩
        · (with_reducible apply runO_go); simp only [go_sem, *]
          have f1 := fun H => nilChild_call W H a b t
          have f2 := fun H => rNilChild_call W H (allB a 8) (allB b 8) t
          have f3 := fun H => nilBlocked_call W H a
          have f4 := fun H => rNilBlocked_call W H (allB a 8)
          have f5 : ∀ H, CallA Try.prog W 21 [.v (.int .u8 ((0#8).toNat : Int))] H fun r H' => r = .list [] ∧ H' = H := fun H => by
            have h := setAll_call W H 0#8; rw [show allB 0#8 8 = [] by decide] at h; exact h
          have f6 : ∀ H, CallA Try.prog W 20 [.list [], .list []] H fun r H' => r = .v (.bool true) ∧ H' = H := fun H => sameInts_call W H [] [] (by simp)
          repeat' (first
    | (with_reducible apply run_seq)
    | (with_reducible apply run_block)
    | (with_reducible apply run_inBlock)
    | (with_reducible apply run_skip)
    | (with_reducible apply run_exit rfl)
    | ((with_reducible apply run_go); simp only [go_sem, *])
    | ((with_reducible apply run_cond_t); (focus (simp only [go_sem, *]; done)))
    | ((with_reducible apply run_cond_f); (focus (simp only [go_sem, *]; done)))
    | ((with_reducible apply run_cond); (focus (simp only [go_sem, *]; rfl)); (all_goals intro _))
    | ((with_reducible apply runO_box); (focus (simp only [go_sem, *]; done)); intro pb hpb; have hfb := Heap.ne_of_none hpb; (try simp only [Heap.set_none', stH_none] at hpb); (with_reducible apply runO_go); simp only [go_sem, *])
    | ((with_reducible apply runO_skipF); (focus (simp only [go_sem, *]; rfl)); (focus rfl); (with_reducible apply runO_go); simp only [go_sem, *])
    | ((first | (with_reducible apply runA_and) | (with_reducible apply runO_and) | (with_reducible apply runD_and)); (focus (first | assumption | (simp only [go_sem, *]; done) | (simp only [go_sem, *]; assumption))); (try simp only [go_sem, *]))
    | ((with_reducible apply runO_callF known13); simp only [go_sem, *]; refine (d1 _).use ?_; (with_reducible apply runO_go); simp only [go_sem, *])
            | ((with_reducible apply runO_callF known13); simp only [go_sem, *]; refine (d2 _).use ?_; (with_reducible apply runO_go); simp only [go_sem, *])
            | ((with_reducible apply runO_callF known26); simp only [go_sem, *]; refine (f1 _).use ?_; (with_reducible apply runO_go); simp only [go_sem, *])
            | ((with_reducible apply runO_callF known27); simp only [go_sem, *]; refine (f2 _).use ?_; (with_reducible apply runO_go); simp only [go_sem, *])
            | ((with_reducible apply runO_callFG known28); (focus (simp only [go_sem, *]; rfl)); (focus (intro _; simp only [go_sem, *]; exact f3 _)); (with_reducible apply runO_go); simp only [go_sem, *])
            | ((with_reducible apply runO_callFG known29); (focus (simp only [go_sem, *]; rfl)); (focus (intro _; simp only [go_sem, *]; exact f4 _)); (with_reducible apply runO_go); simp only [go_sem, *])
            | ((with_reducible apply runO_callF known21); simp only [go_sem, *]; refine (f5 _).use ?_; (with_reducible apply runO_go); simp only [go_sem, *])
            | ((with_reducible apply runO_callF known20); simp only [go_sem, *]; refine (f6 _).use ?_; (with_reducible apply runO_go); simp only [go_sem, *])
    | ((with_reducible apply run_ret Try.func5 res5 (H' := H)); (focus (simp only [go_sem, *]; rfl)); (focus trivial); (focus (repeat (first | assumption | exact Heap.sub_refl _ | refine Heap.sub_congr ?_ | refine Heap.sub_set ?_ (by assumption) | refine Heap.sub_set2 ?_ (by first | assumption | (simp only [*]; done) | (simp only [Heap.set_none', stH_none, ne_eq, *, not_false_eq_true, and_self]; done)))))))
          rfl
        · rw [hno] at hok; cases hok
        · rw [hno] at hok; cases hok
      · (with_reducible apply runO_go); simp only [go_sem, *]
        generalize her : (rpl (newS p fuel) row).1 = er at *
        have HER : Hid _ := her
        have HNE : Hid _ := hne0
        clear her hne0
        repeat' (first
    | (with_reducible apply run_seq)
    | (with_reducible apply run_block)
    | (with_reducible apply run_inBlock)
    | (with_reducible apply run_skip)
    | (with_reducible apply run_exit rfl)
    | ((with_reducible apply run_go); simp only [go_sem, *])
    | ((with_reducible apply run_cond_t); (focus (simp only [go_sem, *]; done)))
    | ((with_reducible apply run_cond_f); (focus (simp only [go_sem, *]; done)))
    | ((with_reducible apply run_cond); (focus (simp only [go_sem, *]; rfl)); (all_goals intro _))
    | ((with_reducible apply runO_box); (focus (simp only [go_sem, *]; done)); intro pb hpb; have hfb := Heap.ne_of_none hpb; (try simp only [Heap.set_none', stH_none] at hpb); (with_reducible apply runO_go); simp only [go_sem, *])
    | ((with_reducible apply runO_skipF); (focus (simp only [go_sem, *]; rfl)); (focus rfl); (with_reducible apply runO_go); simp only [go_sem, *])
    | ((first | (with_reducible apply runA_and) | (with_reducible apply runO_and) | (with_reducible apply runD_and)); (focus (first | assumption | (simp only [go_sem, *]; done) | (simp only [go_sem, *]; assumption))); (try simp only [go_sem, *]))
    | ((with_reducible apply run_ret Try.func5 res5 (H' := H)); (focus (simp only [go_sem, *]; rfl)); (focus trivial); (focus (repeat (first | assumption | exact Heap.sub_refl _ | refine Heap.sub_congr ?_ | refine Heap.sub_set ?_ (by assumption) | refine Heap.sub_set2 ?_ (by first | assumption | (simp only [*]; done) | (simp only [Heap.set_none', stH_none, ne_eq, *, not_false_eq_true, and_self]; done)))))))
        (with_reducible apply runO_callF known25); simp only [go_sem, *]
        refine (HRR.out _).mono (fun d3 H3 hh => ?_)
        rcases hh with ⟨hno, _⟩ | ⟨_, _, rfl, rfl⟩ | ⟨_, he0, _⟩
        · rw [hok] at hno; cases hno
        · rw [HER.out]
          (with_reducible apply runO_go); simp only [go_sem, *]
          have f1 := fun H => nilChild_call W H a b t
          have f2 := fun H => rNilChild_call W H (allB a 8) (allB b 8) t
          have f3 := fun H => nilBlocked_call W H a
          have f4 := fun H => rNilBlocked_call W H (allB a 8)
          have f5 : ∀ H, CallA Try.prog W 21 [.v (.int .u8 ((0#8).toNat : Int))] H fun r H' => r = .list [] ∧ H' = H := fun H => by
            have h := setAll_call W H 0#8; rw [show allB 0#8 8 = [] by decide] at h; exact h
          have f6 : ∀ H, CallA Try.prog W 20 [.list [], .list []] H fun r H' => r = .v (.bool true) ∧ H' = H := fun H => sameInts_call W H [] [] (by simp)
          repeat' (first
    | (with_reducible apply run_seq)
    | (with_reducible apply run_block)
    | (with_reducible apply run_inBlock)
    | (with_reducible apply run_skip)
    | (with_reducible apply run_exit rfl)
    | ((with_reducible apply run_go); simp only [go_sem, *])
    | ((with_reducible apply run_cond_t); (focus (simp only [go_sem, *]; done)))
    | ((with_reducible apply run_cond_f); (focus (simp only [go_sem, *]; done)))
    | ((with_reducible apply run_cond); (focus (simp only [go_sem, *]; rfl)); (all_goals intro _))
    | ((with_reducible apply runO_box); (focus (simp only [go_sem, *]; done)); intro pb hpb; have hfb := Heap.ne_of_none hpb; (try simp only [Heap.set_none', stH_none] at hpb); (with_reducible apply runO_go); simp only [go_sem, *])
    | ((with_reducible apply runO_skipF); (focus (simp only [go_sem, *]; rfl)); (focus rfl); (with_reducible apply runO_go); simp only [go_sem, *])
    | ((first | (with_reducible apply runA_and) | (with_reducible apply runO_and) | (with_reducible apply runD_and)); (focus (first | assumption | (simp only [go_sem, *]; done) | (simp only [go_sem, *]; assumption))); (try simp only [go_sem, *]))
    | ((with_reducible apply runO_callF known13); simp only [go_sem, *]; refine (d1 _).use ?_; (with_reducible apply runO_go); simp only [go_sem, *])
            | ((with_reducible apply runO_callF known13); simp only [go_sem, *]; refine (d2 _).use ?_; (with_reducible apply runO_go); simp only [go_sem, *])
            | ((with_reducible apply runO_callF known26); simp only [go_sem, *]; refine (f1 _).use ?_; (with_reducible apply runO_go); simp only [go_sem, *])
            | ((with_reducible apply runO_callF known27); simp only [go_sem, *]; refine (f2 _).use ?_; (with_reducible apply runO_go); simp only [go_sem, *])
            | ((with_reducible apply runO_callFG known28); (focus (simp only [go_sem, *]; rfl)); (focus (intro _; simp only [go_sem, *]; exact f3 _)); (with_reducible apply runO_go); simp only [go_sem, *])
            | ((with_reducible apply runO_callFG known29); (focus (simp only [go_sem, *]; rfl)); (focus (intro _; simp only [go_sem, *]; exact f4 _)); (with_reducible apply runO_go); simp only [go_sem, *])
            | ((with_reducible apply runO_callF known21); simp only [go_sem, *]; refine (f5 _).use ?_; (with_reducible apply runO_go); simp only [go_sem, *])
            | ((with_reducible apply runO_callF known20); simp only [go_sem, *]; refine (f6 _).use ?_; (with_reducible apply runO_go); simp only [go_sem, *])
    | ((with_reducible apply run_ret Try.func5 res5 (H' := H)); (focus (simp only [go_sem, *]; rfl)); (focus trivial); (focus (repeat (first | assumption | exact Heap.sub_refl _ | refine Heap.sub_congr ?_ | refine Heap.sub_set ?_ (by assumption) | refine Heap.sub_set2 ?_ (by first | assumption | (simp only [*]; done) | (simp only [Heap.set_none', stH_none, ne_eq, *, not_false_eq_true, and_self]; done)))))))
          rfl
        · rw [HER.out] at he0; exact absurd he0 HNE.out
      · have hokr := ok_rpl row (okN_ok hok)
        rw [show (newS p fuel).p = p from rfl] at hokr
        have HX : Hid (∀ (H : Heap) d H', ReplR p fuel row H d H' → ∃ l : Lo, H l.b = none ∧ H l.c = none ∧ l.b ≠ l.c ∧ p.th.length ≤ l.cap ∧
            d = .tup [.v (.pointer (some ⟨l.b, 0, none⟩)), .list (evsC (rpl (newS p fuel) row).2.1), .v (.int .i64 0)] ∧ H' = stR H l (rpl (newS p fuel) row).2.2) := fun H d H' h => by
          rcases h with ⟨hno, _⟩ | ⟨_, h0, _⟩ | ⟨_, _, h⟩
          · rw [hok] at hno; cases hno
          · exact absurd he0 h0
          · exact h
        clear hok he0
        generalize rpl (newS p fuel) row = r0 at *
        obtain ⟨x1, x2, s⟩ := r0
        simp only at hokr
        obtain ⟨hs, hsp⟩ := hokr
        have htl : s.ts.length = p.th.length := by rw [hs.len, hsp]
        have hat : AtP (stP K lo s) lo s := stH_at hne (by rw [htl]; exact hcap)
        have hsub1 : K.sub (stP K lo s) := stH_subH hlb hlc
        have hq4 := hsub1 _ _ hq3
        have hsub2 := hsub0.trans hsub1
        have HS : Hid _ := hs
        have HCAP : Hid (∀ l2 : Lo, p.th.length ≤ l2.cap → s.ts.length ≤ l2.cap) := fun l2 h => by rw [htl]; exact h
        clear hs hsp htl hlb hlc hne hcap hsub0 hsub1 hq3
        (with_reducible apply runO_go); simp only [go_sem, *]
        generalize stP K lo s = V at *
        repeat' (first
    | (with_reducible apply run_seq)
    | (with_reducible apply run_block)
    | (with_reducible apply run_inBlock)
    | (with_reducible apply run_skip)
    | (with_reducible apply run_exit rfl)
    | ((with_reducible apply run_go); simp only [go_sem, *])
    | ((with_reducible apply run_cond_t); (focus (simp only [go_sem, *]; done)))
    | ((with_reducible apply run_cond_f); (focus (simp only [go_sem, *]; done)))
    | ((with_reducible apply run_cond); (focus (simp only [go_sem, *]; rfl)); (all_goals intro _))
    | ((with_reducible apply runO_box); (focus (simp only [go_sem, *]; done)); intro pb hpb; have hfb := Heap.ne_of_none hpb; (try simp only [Heap.set_none', stH_none] at hpb); (with_reducible apply runO_go); simp only [go_sem, *])
    | ((with_reducible apply runO_skipF); (focus (simp only [go_sem, *]; rfl)); (focus rfl); (with_reducible apply runO_go); simp only [go_sem, *])
    | ((first | (with_reducible apply runA_and) | (with_reducible apply runO_and) | (with_reducible apply runD_and)); (focus (first | assumption | (simp only [go_sem, *]; done) | (simp only [go_sem, *]; assumption))); (try simp only [go_sem, *]))
    | ((with_reducible apply run_ret Try.func5 res5 (H' := H)); (focus (simp only [go_sem, *]; rfl)); (focus trivial); (focus (repeat (first | assumption | exact Heap.sub_refl _ | refine Heap.sub_congr ?_ | refine Heap.sub_set ?_ (by assumption) | refine Heap.sub_set2 ?_ (by first | assumption | (simp only [*]; done) | (simp only [Heap.set_none', stH_none, ne_eq, *, not_false_eq_true, and_self]; done)))))))
        (with_reducible apply runO_callF known25); simp only [go_sem, *]
        refine (HRR.out _).mono (fun d3 H3 hh => ?_)
        obtain ⟨l2, hlb, hlc, hne, hcap, rfl, rfl⟩ := HX.out _ _ _ hh
        have hat2 : AtR (stR V l2 s) l2 s := stH_at hne (HCAP.out l2 hcap)
        have hsub3 : V.sub (stR V l2 s) := stH_subH hlb hlc
        have hat1 := hat.mono hsub3
        have hsub4 := hsub2.trans hsub3
        clear hat hsub2 hsub3 hlb hlc hcap hne hq4 HCAP HX hh
        (with_reducible apply runO_go); simp only [go_sem, *]
        generalize stR V l2 s = U at *
        have f1 := child_call W U lo s hat1 HS.out a b t
        have f2 := rChild_call W U l2 s hat2 HS.out (allB a 8) (allB b 8) t (by omega) (by omega)
        have f3 := blocked_call W U lo s hat1 HS.out a
        have f4 := rBlocked_call W U l2 s hat2 HS.out (allB a 8) (by omega)
        have f5 := setAll_call W U (chE s a b t)
        have hl8 := allB_len (chE s a b t) 8
        rw [child_law] at f5 hl8
        rw [← blocked_law HS.out] at f4
        have f6 := sameInts_call W U (chD s (allB a 8) (allB b 8) t) (chD s (allB a 8) (allB b 8) t) (by omega)
        rw [decide_eq_true rfl] at f6
        clear hl8 hat1 hat2
        repeat' (first
    | (with_reducible apply run_seq)
    | (with_reducible apply run_block)
    | (with_reducible apply run_inBlock)
    | (with_reducible apply run_skip)
    | (with_reducible apply run_exit rfl)
    | ((with_reducible apply run_go); simp only [go_sem, *])
    | ((with_reducible apply run_cond_t); (focus (simp only [go_sem, *]; done)))
    | ((with_reducible apply run_cond_f); (focus (simp only [go_sem, *]; done)))
    | ((with_reducible apply run_cond); (focus (simp only [go_sem, *]; rfl)); (all_goals intro _))
    | ((with_reducible apply runO_box); (focus (simp only [go_sem, *]; done)); intro pb hpb; have hfb := Heap.ne_of_none hpb; (try simp only [Heap.set_none', stH_none] at hpb); (with_reducible apply runO_go); simp only [go_sem, *])
    | ((with_reducible apply runO_skipF); (focus (simp only [go_sem, *]; rfl)); (focus rfl); (with_reducible apply runO_go); simp only [go_sem, *])
    | ((first | (with_reducible apply runA_and) | (with_reducible apply runO_and) | (with_reducible apply runD_and)); (focus (first | assumption | (simp only [go_sem, *]; done) | (simp only [go_sem, *]; assumption))); (try simp only [go_sem, *]))
    | ((with_reducible apply runO_callF known13); simp only [go_sem, *]; refine (d1 _).use ?_; (with_reducible apply runO_go); simp only [go_sem, *])
          | ((with_reducible apply runO_callF known13); simp only [go_sem, *]; refine (d2 _).use ?_; (with_reducible apply runO_go); simp only [go_sem, *])
          | ((with_reducible apply runO_callF known26); simp only [go_sem, *]; refine (f1).use ?_; (with_reducible apply runO_go); simp only [go_sem, *])
          | ((with_reducible apply runO_callF known27); simp only [go_sem, *]; refine (f2).use ?_; (with_reducible apply runO_go); simp only [go_sem, *])
          | ((with_reducible apply runO_callFG known28); (focus (simp only [go_sem, *]; rfl)); (focus (intro _; simp only [go_sem, *]; exact f3)); (with_reducible apply runO_go); simp only [go_sem, *])
          | ((with_reducible apply runO_callFG known29); (focus (simp only [go_sem, *]; rfl)); (focus (intro _; simp only [go_sem, *]; exact f4)); (with_reducible apply runO_go); simp only [go_sem, *])
          | ((with_reducible apply runO_callF known21); simp only [go_sem, *]; refine (f5).use ?_; (with_reducible apply runO_go); simp only [go_sem, *])
          | ((with_reducible apply runO_callF known20); simp only [go_sem, *]; refine (f6).use ?_; (with_reducible apply runO_go); simp only [go_sem, *])
          | ((with_reducible apply run_ret Try.func5 res5 (H' := U)); (focus (simp only [go_sem, *]; rfl)); (focus trivial); (focus (repeat (first | assumption | exact Heap.sub_refl _ | refine Heap.sub_congr ?_ | refine Heap.sub_set ?_ (by assumption) | refine Heap.sub_set2 ?_ (by first | assumption | (simp only [*]; done) | (simp only [Heap.set_none', stH_none, ne_eq, *, not_false_eq_true, and_self]; done))))))
    | ((with_reducible apply run_ret Try.func5 res5 (H' := H)); (focus (simp only [go_sem, *]; rfl)); (focus trivial); (focus (repeat (first | assumption | exact Heap.sub_refl _ | refine Heap.sub_congr ?_ | refine Heap.sub_set ?_ (by assumption) | refine Heap.sub_set2 ?_ (by first | assumption | (simp only [*]; done) | (simp only [Heap.set_none', stH_none, ne_eq, *, not_false_eq_true, and_self]; done)))))))
        rfl
    · have hl' : (40 : Int) < (row.length : Int) := by omega
      repeat' (first
    | (with_reducible apply run_seq)
    | (with_reducible apply run_block)
    | (with_reducible apply run_inBlock)
    | (with_reducible apply run_skip)
    | (with_reducible apply run_exit rfl)
    | ((with_reducible apply run_go); simp only [go_sem, *])
    | ((with_reducible apply run_cond_t); (focus (simp only [go_sem, *]; done)))
    | ((with_reducible apply run_cond_f); (focus (simp only [go_sem, *]; done)))
    | ((with_reducible apply run_cond); (focus (simp only [go_sem, *]; rfl)); (all_goals intro _))
    | ((with_reducible apply runO_box); (focus (simp only [go_sem, *]; done)); intro pb hpb; have hfb := Heap.ne_of_none hpb; (try simp only [Heap.set_none', stH_none] at hpb); (with_reducible apply runO_go); simp only [go_sem, *])
    | ((with_reducible apply runO_skipF); (focus (simp only [go_sem, *]; rfl)); (focus rfl); (with_reducible apply runO_go); simp only [go_sem, *])
    | ((first | (with_reducible apply runA_and) | (with_reducible apply runO_and) | (with_reducible apply runD_and)); (focus (first | assumption | (simp only [go_sem, *]; done) | (simp only [go_sem, *]; assumption))); (try simp only [go_sem, *]))
    | ((with_reducible apply runO_callF known12); simp only [go_sem, *]; refine (c0 _).use ?_; (with_reducible apply runO_go); simp only [go_sem, *])
        | ((with_reducible apply runO_callFG known23); (focus (simp only [go_sem, *]; rfl)); (focus (intro _; simp only [go_sem, *]; exact c1 _)); (with_reducible apply runO_go); simp only [go_sem, *])
    | ((with_reducible apply run_ret Try.func5 res5 (H' := H)); (focus (simp only [go_sem, *]; rfl)); (focus trivial); (focus (repeat (first | assumption | exact Heap.sub_refl _ | refine Heap.sub_congr ?_ | refine Heap.sub_set ?_ (by assumption) | refine Heap.sub_set2 ?_ (by first | assumption | (simp only [*]; done) | (simp only [Heap.set_none', stH_none, ne_eq, *, not_false_eq_true, and_self]; done)))))))
      rfl
  · rw [Bool.not_eq_true] at hf
    rw [hf] at c1
    by_cases hl : row.length ≤ 40
    · have hl' : ¬ (40 : Int) < (row.length : Int) := by omega
      repeat' (first
    | (with_reducible apply run_seq)
    | (with_reducible apply run_block)
    | (with_reducible apply run_inBlock)
    | (with_reducible apply run_skip)
    | (with_reducible apply run_exit rfl)
    | ((with_reducible apply run_go); simp only [go_sem, *])
    | ((with_reducible apply run_cond_t); (focus (simp only [go_sem, *]; done)))
    | ((with_reducible apply run_cond_f); (focus (simp only [go_sem, *]; done)))
    | ((with_reducible apply run_cond); (focus (simp only [go_sem, *]; rfl)); (all_goals intro _))
    | ((with_reducible apply runO_box); (focus (simp only [go_sem, *]; done)); intro pb hpb; have hfb := Heap.ne_of_none hpb; (try simp only [Heap.set_none', stH_none] at hpb); (with_reducible apply runO_go); simp only [go_sem, *])
    | ((with_reducible apply runO_skipF); (focus (simp only [go_sem, *]; rfl)); (focus rfl); (with_reducible apply runO_go); simp only [go_sem, *])
    | ((first | (with_reducible apply runA_and) | (with_reducible apply runO_and) | (with_reducible apply runD_and)); (focus (first | assumption | (simp only [go_sem, *]; done) | (simp only [go_sem, *]; assumption))); (try simp only [go_sem, *]))
    | ((with_reducible apply runO_callF known12); simp only [go_sem, *]; refine (c0 _).use ?_; (with_reducible apply runO_go); simp only [go_sem, *])
        | ((with_reducible apply runO_callFG known23); (focus (simp only [go_sem, *]; rfl)); (focus (intro _; simp only [go_sem, *]; exact c1 _)); (with_reducible apply runO_go); simp only [go_sem, *])
    | ((with_reducible apply run_ret Try.func5 res5 (H' := H)); (focus (simp only [go_sem, *]; rfl)); (focus trivial); (focus (repeat (first | assumption | exact Heap.sub_refl _ | refine Heap.sub_congr ?_ | refine Heap.sub_set ?_ (by assumption) | refine Heap.sub_set2 ?_ (by first | assumption | (simp only [*]; done) | (simp only [Heap.set_none', stH_none, ne_eq, *, not_false_eq_true, and_self]; done)))))))
      rfl
    · have hl' : (40 : Int) < (row.length : Int) := by omega
      repeat' (first
    | (with_reducible apply run_seq)
    | (with_reducible apply run_block)
    | (with_reducible apply run_inBlock)
    | (with_reducible apply run_skip)
    | (with_reducible apply run_exit rfl)
    | ((with_reducible apply run_go); simp only [go_sem, *])
    | ((with_reducible apply run_cond_t); (focus (simp only [go_sem, *]; done)))
    | ((with_reducible apply run_cond_f); (focus (simp only [go_sem, *]; done)))
    | ((with_reducible apply run_cond); (focus (simp only [go_sem, *]; rfl)); (all_goals intro _))
    | ((with_reducible apply runO_box); (focus (simp only [go_sem, *]; done)); intro pb hpb; have hfb := Heap.ne_of_none hpb; (try simp only [Heap.set_none', stH_none] at hpb); (with_reducible apply runO_go); simp only [go_sem, *])
    | ((with_reducible apply runO_skipF); (focus (simp only [go_sem, *]; rfl)); (focus rfl); (with_reducible apply runO_go); simp only [go_sem, *])
    | ((first | (with_reducible apply runA_and) | (with_reducible apply runO_and) | (with_reducible apply runD_and)); (focus (first | assumption | (simp only [go_sem, *]; done) | (simp only [go_sem, *]; assumption))); (try simp only [go_sem, *]))
    | ((with_reducible apply runO_callF known12); simp only [go_sem, *]; refine (c0 _).use ?_; (with_reducible apply runO_go); simp only [go_sem, *])
        | ((with_reducible apply runO_callFG known23); (focus (simp only [go_sem, *]; rfl)); (focus (intro _; simp only [go_sem, *]; exact c1 _)); (with_reducible apply runO_go); simp only [go_sem, *])
    | ((with_reducible apply run_ret Try.func5 res5 (H' := H)); (focus (simp only [go_sem, *]; rfl)); (focus trivial); (focus (repeat (first | assumption | exact Heap.sub_refl _ | refine Heap.sub_congr ?_ | refine Heap.sub_set ?_ (by assumption) | refine Heap.sub_set2 ?_ (by first | assumption | (simp only [*]; done) | (simp only [Heap.set_none', stH_none, ne_eq, *, not_false_eq_true, and_self]; done)))))))
      rfl
end Go.Proofs.Ytobdagjdhgjplaa
