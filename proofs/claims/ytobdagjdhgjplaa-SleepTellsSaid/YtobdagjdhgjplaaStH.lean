/-
  Contracts: a step of a state of ours.
-/
import Derived.Test.YtobdagjdhgjplaaStG
set_option linter.unusedSimpArgs false
set_option linter.unusedVariables false
namespace Go.Proofs.Ytobdagjdhgjplaa
open Go Go.Sn Go.RowKit

theorem ok_setTd {s : St} (hs : OkSt s) (t : Int) {x : Td} (hf : 0 ≤ x.fu ∧ x.fu ≤ 8) (hp : 0 ≤ x.pc ∧ x.pc ≤ 8) : OkSt (s.setTd t x) := by
  refine ⟨hs.right, by show (s.ts.set _ _).length = _; rw [List.length_set]; exact hs.len, fun k hk => ?_⟩
  have hk' : k < s.ts.length := by have : k < (s.ts.set t.toNat x).length := hk; rwa [List.length_set] at this
  show (0 ≤ ((s.ts.set t.toNat x).getD k default).fu ∧ ((s.ts.set t.toNat x).getD k default).fu ≤ 8) ∧ 0 ≤ ((s.ts.set t.toNat x).getD k default).pc ∧ ((s.ts.set t.toNat x).getD k default).pc ≤ 8
  by_cases e : t.toNat = k
  · subst e
    rw [getD_set _ hk']
    exact ⟨hf, hp⟩
  · have : (s.ts.set t.toNat x).getD k default = s.ts.getD k default := by simp [List.getD_eq_getElem?_getD, List.getElem?_set_ne e]
    rw [this]
    exact hs.td k hk'
theorem ok_var {s : St} (hs : OkSt s) (x n : Int) : OkSt (s.setVar x n) := by unfold St.setVar; (repeat' split) <;> exact ⟨hs.right, hs.len, hs.td⟩
theorem ok_hol {s : St} (hs : OkSt s) (x n : Int) : OkSt (s.setHol x n) := by unfold St.setHol; (repeat' split) <;> exact ⟨hs.right, hs.len, hs.td⟩
theorem setReg_pc (t : Td) (r n : Int) : (t.setReg r n).pc = t.pc ∧ (t.setReg r n).fu = t.fu := by unfold Td.setReg; split <;> exact ⟨rfl, rfl⟩
theorem has_is {s : St} {t : Int} (h : s.has t = true) : s.is t = true := by unfold St.has at h; rw [Bool.and_eq_true] at h; exact h.1
theorem has_fu {s : St} {t : Int} (h : s.has t = true) : (s.td t).fu ≠ 0 ∧ (s.td t).pc < ((s.code t).length : Int) := by
  unfold St.has at h
  rw [Bool.and_eq_true] at h
  have h2 := h.2
  simp only [Bool.not_eq_true', Bool.or_eq_false_iff, decide_eq_false_iff_not] at h2
  exact ⟨h2.1, by omega⟩
theorem OkSt.tdk {s : St} (hs : OkSt s) {k : Nat} (hk : k < s.ts.length) : (0 ≤ (s.td k).fu ∧ (s.td k).fu ≤ 8) ∧ 0 ≤ (s.td k).pc ∧ (s.td k).pc ≤ 8 := hs.td k hk
theorem ok_tick {s : St} (hs : OkSt s) {k : Nat} (hh : s.has (k : Int) = true) : OkSt (s.tick k) := by
  obtain ⟨k', e, hk⟩ := is_nat (has_is hh)
  obtain rfl : k = k' := by omega
  have h1 := hs.tdk hk
  have h2 := has_fu hh
  have h3 := hs.code_len (k : Int)
  exact ok_setTd hs _ (by simp only; omega) (by simp only; omega)
theorem len_setTd (s : St) (t : Int) (x : Td) : (s.setTd t x).ts.length = s.ts.length := List.length_set
theorem ok_deed {s : St} (hs : OkSt s) {k : Nat} (hk : k < s.ts.length) {i : In} (hx : i.kd = 7 → 0 ≤ i.x ∧ i.x ≤ 8) : OkSt (s.deed k i) := by
  have h1 := hs.tdk hk
  have hr : ∀ r n, OkSt (s.setTd k ((s.td k).setReg r n)) := fun r n => by
    obtain ⟨e1, e2⟩ := setReg_pc (s.td k) r n
    exact ok_setTd hs _ (by rw [e2]; exact h1.1) (by rw [e1]; exact h1.2)
  unfold St.deed
  split
  · exact hr _ _
  · split
    · exact ok_var hs _ _
    · split
      · exact hr _ _
      · split
        · exact hr _ _
        · split
          · exact ok_hol hs _ _
          · split
            · split
              · exact ok_hol hs _ _
              · exact hs
            · split
              · rename_i h7
                split
                · exact hs
                · exact ok_setTd hs _ h1.1 (hx h7)
              · exact hs
theorem err_0 {s : St} {t : Int} (h : s.err t = 0) : s.may t = true ∧ s.has t = true ∧ s.is t = true := by
  unfold St.err at h
  split at h
  · rename_i h1
    split at h
    · rename_i h2
      split at h
      · rename_i h3; exact ⟨h3, h2, h1⟩
      · cases h
    · cases h
  · cases h
theorem ok_stS {s : St} (hs : OkSt s) (t : Int) : OkSt (s.stS t) := by
  unfold St.stS
  split
  · rename_i h
    obtain ⟨_, hh, his⟩ := err_0 h
    obtain ⟨k, rfl, hk⟩ := is_nat his
    obtain ⟨hi, _, _⟩ := hs.ins hh
    have h3 := hs.code_len (k : Int)
    exact ok_deed (ok_tick hs hh) (by unfold St.tick; rw [len_setTd]; exact hk) fun h7 => ⟨hi.x0, by have := hi.jump h7; omega⟩
  · exact hs

set_option maxHeartbeats 8000000 in
theorem mStep_call (W : World) (H : Heap) (l : Lo) (s : St) (t : Int) (h : AtP H l s) (hs : OkSt s) :
    CallA Try.prog W 35 [.v (.pointer (some ⟨l.b, 0, none⟩)), .v (.int .i64 t)] H fun r H' => r = .tup [.agg (evC (s.stE t)), .v (.int .i64 (s.err t))] ∧ H' = stP H l (s.stS t) := by
  refine call_in Try.func35 rfl Try.ntmps35 (by simp) ?_
  have c1 := fun H' (hk : H.sub H') => mIs_call W (h.mono hk) t
  have c2 := fun H' (hk : H.sub H') => mNext_call W (h.mono hk) t hs
  have c3 := fun H' (hk : H.sub H') => mEnabled_call W (h.mono hk) t hs
  have c4 := fun H' (hk : H.sub H') => mInstr_call W (h.mono hk) t hs
  have stay : s.err t ≠ 0 → stP H l (s.stS t) = H ∧ s.stE t = ev0 := fun e => by
    unfold St.stS St.stE
    rw [if_neg e, if_neg e]
    exact ⟨stH_self h, rfl⟩
  have HS : Hid _ := stay
  have HH : Hid _ := h
  have HO : Hid _ := hs
  clear stay h hs
  cases his : s.is t with
  | false =>
    have he : s.err t = 2 := by unfold St.err; rw [his]; rfl
    obtain ⟨e1, e2⟩ := HS.out (by rw [he]; decide)
    rw [his] at c1
    rw [he, e1, e2]
    repeat' (first
    | (with_reducible apply run_seq)
    | (with_reducible apply run_block)
    | (with_reducible apply run_inBlock)
    | (with_reducible apply run_skip)
    | (with_reducible apply run_exit rfl)
    | ((with_reducible apply run_go); simp only [go_sem, *])
    | ((with_reducible apply run_cond_t); (focus (simp only [go_sem, *]; done)))
    | ((with_reducible apply run_cond_f); (focus (simp only [go_sem, *]; done)))
    | ((with_reducible apply run_cond); (focus (simp only [go_sem, *]; rfl)); (all_goals intro _))
    | ((with_reducible apply runO_alloc); (focus (simp only [go_sem, *]; rfl)); intro pb hpb; have hfb := Heap.ne_of_none hpb; (try simp only [Heap.set_none'] at hpb); (with_reducible apply runO_go); simp only [go_sem, *])
    | ((with_reducible apply runO_store); (focus (simp only [go_sem]; rfl)); (focus (simp only [go_sem, *]; rfl)); (focus (simp only [go_sem, *]; rfl)); (focus (simp only [go_sem, *]; done)); (focus (simp only [go_sem, *]; done)); (focus (simp only [go_sem, *]; done)); (with_reducible apply runO_go); simp only [go_sem, *, Heap.set_set])
    | ((first | (with_reducible apply runA_and) | (with_reducible apply runO_and) | (with_reducible apply runD_and)); (focus (first | assumption | (simp only [go_sem, *]; done) | (simp only [go_sem, *]; assumption))); (try simp only [go_sem, *]))
    | ((with_reducible apply runO_callF known57); simp only [go_sem, *]; refine (c1 _ (by (repeat (first | assumption | exact Heap.sub_refl _ | refine Heap.sub_congr ?_ | refine Heap.sub_set ?_ (by assumption) | refine Heap.sub_set2 ?_ (by first | assumption | (simp only [*]; done) | (simp only [Heap.set_none', ne_eq, *, not_false_eq_true, and_self]; done)))); done)).use ?_; (with_reducible apply runO_go); simp only [go_sem, *])
    | ((with_reducible apply run_ret Try.func35 res35 (H' := H)); (focus (simp only [go_sem, *]; rfl)); (focus trivial); (focus (repeat (first | assumption | exact Heap.sub_refl _ | refine Heap.sub_congr ?_ | refine Heap.sub_set ?_ (by assumption) | refine Heap.sub_set2 ?_ (by first | assumption | (simp only [*]; done) | (simp only [Heap.set_none', ne_eq, *, not_false_eq_true, and_self]; done)))))))
    exact ⟨rfl, rfl⟩
  | true =>
    rw [his] at c1
    cases hh : s.has t with
    | false =>
      have he : s.err t = 6 := by unfold St.err; rw [his, hh]; rfl
      obtain ⟨e1, e2⟩ := HS.out (by rw [he]; decide)
      rw [hh] at c2
      rw [he, e1, e2]
      repeat' (first
    | (with_reducible apply run_seq)
    | (with_reducible apply run_block)
    | (with_reducible apply run_inBlock)
    | (with_reducible apply run_skip)
    | (with_reducible apply run_exit rfl)
    | ((with_reducible apply run_go); simp only [go_sem, *])
    | ((with_reducible apply run_cond_t); (focus (simp only [go_sem, *]; done)))
    | ((with_reducible apply run_cond_f); (focus (simp only [go_sem, *]; done)))
    | ((with_reducible apply run_cond); (focus (simp only [go_sem, *]; rfl)); (all_goals intro _))
    | ((with_reducible apply runO_alloc); (focus (simp only [go_sem, *]; rfl)); intro pb hpb; have hfb := Heap.ne_of_none hpb; (try simp only [Heap.set_none'] at hpb); (with_reducible apply runO_go); simp only [go_sem, *])
    | ((with_reducible apply runO_store); (focus (simp only [go_sem]; rfl)); (focus (simp only [go_sem, *]; rfl)); (focus (simp only [go_sem, *]; rfl)); (focus (simp only [go_sem, *]; done)); (focus (simp only [go_sem, *]; done)); (focus (simp only [go_sem, *]; done)); (with_reducible apply runO_go); simp only [go_sem, *, Heap.set_set])
    | ((first | (with_reducible apply runA_and) | (with_reducible apply runO_and) | (with_reducible apply runD_and)); (focus (first | assumption | (simp only [go_sem, *]; done) | (simp only [go_sem, *]; assumption))); (try simp only [go_sem, *]))
    | ((with_reducible apply runO_callF known57); simp only [go_sem, *]; refine (c1 _ (by (repeat (first | assumption | exact Heap.sub_refl _ | refine Heap.sub_congr ?_ | refine Heap.sub_set ?_ (by assumption) | refine Heap.sub_set2 ?_ (by first | assumption | (simp only [*]; done) | (simp only [Heap.set_none', ne_eq, *, not_false_eq_true, and_self]; done)))); done)).use ?_; (with_reducible apply runO_go); simp only [go_sem, *])
        | ((with_reducible apply runO_callF known31); simp only [go_sem, *]; refine (c2 _ (by (repeat (first | assumption | exact Heap.sub_refl _ | refine Heap.sub_congr ?_ | refine Heap.sub_set ?_ (by assumption) | refine Heap.sub_set2 ?_ (by first | assumption | (simp only [*]; done) | (simp only [Heap.set_none', ne_eq, *, not_false_eq_true, and_self]; done)))); done)).use ?_; (with_reducible apply runO_go); simp only [go_sem, *])
    | ((with_reducible apply run_ret Try.func35 res35 (H' := H)); (focus (simp only [go_sem, *]; rfl)); (focus trivial); (focus (repeat (first | assumption | exact Heap.sub_refl _ | refine Heap.sub_congr ?_ | refine Heap.sub_set ?_ (by assumption) | refine Heap.sub_set2 ?_ (by first | assumption | (simp only [*]; done) | (simp only [Heap.set_none', ne_eq, *, not_false_eq_true, and_self]; done)))))))
      exact ⟨rfl, rfl⟩
    | true =>
      rw [hh] at c2 c4
      cases hm : s.may t with
      | false =>
        have he : s.err t = 9 := by unfold St.err; rw [his, hh, hm]; rfl
        obtain ⟨e1, e2⟩ := HS.out (by rw [he]; decide)
        rw [hm] at c3
        rw [he, e1, e2]
        repeat' (first
    | (with_reducible apply run_seq)
    | (with_reducible apply run_block)
    | (with_reducible apply run_inBlock)
    | (with_reducible apply run_skip)
    | (with_reducible apply run_exit rfl)
    | ((with_reducible apply run_go); simp only [go_sem, *])
    | ((with_reducible apply run_cond_t); (focus (simp only [go_sem, *]; done)))
    | ((with_reducible apply run_cond_f); (focus (simp only [go_sem, *]; done)))
    | ((with_reducible apply run_cond); (focus (simp only [go_sem, *]; rfl)); (all_goals intro _))
    | ((with_reducible apply runO_alloc); (focus (simp only [go_sem, *]; rfl)); intro pb hpb; have hfb := Heap.ne_of_none hpb; (try simp only [Heap.set_none'] at hpb); (with_reducible apply runO_go); simp only [go_sem, *])
    | ((with_reducible apply runO_store); (focus (simp only [go_sem]; rfl)); (focus (simp only [go_sem, *]; rfl)); (focus (simp only [go_sem, *]; rfl)); (focus (simp only [go_sem, *]; done)); (focus (simp only [go_sem, *]; done)); (focus (simp only [go_sem, *]; done)); (with_reducible apply runO_go); simp only [go_sem, *, Heap.set_set])
    | ((first | (with_reducible apply runA_and) | (with_reducible apply runO_and) | (with_reducible apply runD_and)); (focus (first | assumption | (simp only [go_sem, *]; done) | (simp only [go_sem, *]; assumption))); (try simp only [go_sem, *]))
    | ((with_reducible apply runO_callF known57); simp only [go_sem, *]; refine (c1 _ (by (repeat (first | assumption | exact Heap.sub_refl _ | refine Heap.sub_congr ?_ | refine Heap.sub_set ?_ (by assumption) | refine Heap.sub_set2 ?_ (by first | assumption | (simp only [*]; done) | (simp only [Heap.set_none', ne_eq, *, not_false_eq_true, and_self]; done)))); done)).use ?_; (with_reducible apply runO_go); simp only [go_sem, *])
          | ((with_reducible apply runO_callF known31); simp only [go_sem, *]; refine (c2 _ (by (repeat (first | assumption | exact Heap.sub_refl _ | refine Heap.sub_congr ?_ | refine Heap.sub_set ?_ (by assumption) | refine Heap.sub_set2 ?_ (by first | assumption | (simp only [*]; done) | (simp only [Heap.set_none', ne_eq, *, not_false_eq_true, and_self]; done)))); done)).use ?_; (with_reducible apply runO_go); simp only [go_sem, *])
          | ((with_reducible apply runO_callF known33); simp only [go_sem, *]; refine (c3 _ (by (repeat (first | assumption | exact Heap.sub_refl _ | refine Heap.sub_congr ?_ | refine Heap.sub_set ?_ (by assumption) | refine Heap.sub_set2 ?_ (by first | assumption | (simp only [*]; done) | (simp only [Heap.set_none', ne_eq, *, not_false_eq_true, and_self]; done)))); done)).use ?_; (with_reducible apply runO_go); simp only [go_sem, *])
    | ((with_reducible apply run_ret Try.func35 res35 (H' := H)); (focus (simp only [go_sem, *]; rfl)); (focus trivial); (focus (repeat (first | assumption | exact Heap.sub_refl _ | refine Heap.sub_congr ?_ | refine Heap.sub_set ?_ (by assumption) | refine Heap.sub_set2 ?_ (by first | assumption | (simp only [*]; done) | (simp only [Heap.set_none', ne_eq, *, not_false_eq_true, and_self]; done)))))))
        exact ⟨rfl, rfl⟩
      | true =>
        have he : s.err t = 0 := by unfold St.err; rw [his, hh, hm]; rfl
        have e2 : s.stE t = s.nxt t := by unfold St.stE; rw [if_pos he]
        have e1 : s.stS t = (s.tick t).deed t (s.ins t) := by unfold St.stS; rw [if_pos he]
        rw [hm] at c3
        rw [he, e1, e2]
        obtain ⟨hi, hpl, hp0⟩ := HO.out.ins hh
        obtain ⟨k, rfl, hk⟩ := is_nat his
        have htd := HO.out.tdk hk
        have c5 := fun H' (hs' : H.sub H') => do_call W H' l s k (s.ins k) (HH.out.mono hs') hk hi.kd hi.r (fun e => by have := hi.var e; have := hi.x0; omega) hi.mu htd.1 htd.2
        have HC : Hid _ := c5
        clear c5 hi hpl hp0 htd HS e1 e2 he his hh hm
        generalize s.nxt (k : Int) = e at *
        generalize hS : (s.tick (k : Int)).deed k (s.ins k) = S at *
        generalize s.ins (k : Int) = i at *
        repeat' (first
    | (with_reducible apply run_seq)
    | (with_reducible apply run_block)
    | (with_reducible apply run_inBlock)
    | (with_reducible apply run_skip)
    | (with_reducible apply run_exit rfl)
    | ((with_reducible apply run_go); simp only [go_sem, *])
    | ((with_reducible apply run_cond_t); (focus (simp only [go_sem, *]; done)))
    | ((with_reducible apply run_cond_f); (focus (simp only [go_sem, *]; done)))
    | ((with_reducible apply run_cond); (focus (simp only [go_sem, *]; rfl)); (all_goals intro _))
    | ((with_reducible apply runO_alloc); (focus (simp only [go_sem, *]; rfl)); intro pb hpb; have hfb := Heap.ne_of_none hpb; (try simp only [Heap.set_none'] at hpb); (with_reducible apply runO_go); simp only [go_sem, *])
    | ((with_reducible apply runO_store); (focus (simp only [go_sem]; rfl)); (focus (simp only [go_sem, *]; rfl)); (focus (simp only [go_sem, *]; rfl)); (focus (simp only [go_sem, *]; done)); (focus (simp only [go_sem, *]; done)); (focus (simp only [go_sem, *]; done)); (with_reducible apply runO_go); simp only [go_sem, *, Heap.set_set])
    | ((first | (with_reducible apply runA_and) | (with_reducible apply runO_and) | (with_reducible apply runD_and)); (focus (first | assumption | (simp only [go_sem, *]; done) | (simp only [go_sem, *]; assumption))); (try simp only [go_sem, *]))
    | ((with_reducible apply run_ret Try.func35 res35 (H' := H)); (focus (simp only [go_sem, *]; rfl)); (focus trivial); (focus (repeat (first | assumption | exact Heap.sub_refl _ | refine Heap.sub_congr ?_ | refine Heap.sub_set ?_ (by assumption) | refine Heap.sub_set2 ?_ (by first | assumption | (simp only [*]; done) | (simp only [Heap.set_none', ne_eq, *, not_false_eq_true, and_self]; done)))))))
        generalize pb = p4 at *
        have hp4 := hpb
        clear hpb
        repeat' (first
    | (with_reducible apply run_seq)
    | (with_reducible apply run_block)
    | (with_reducible apply run_inBlock)
    | (with_reducible apply run_skip)
    | (with_reducible apply run_exit rfl)
    | ((with_reducible apply run_go); simp only [go_sem, *])
    | ((with_reducible apply run_cond_t); (focus (simp only [go_sem, *]; done)))
    | ((with_reducible apply run_cond_f); (focus (simp only [go_sem, *]; done)))
    | ((with_reducible apply run_cond); (focus (simp only [go_sem, *]; rfl)); (all_goals intro _))
    | ((with_reducible apply runO_alloc); (focus (simp only [go_sem, *]; rfl)); intro pb hpb; have hfb := Heap.ne_of_none hpb; (try simp only [Heap.set_none'] at hpb); (with_reducible apply runO_go); simp only [go_sem, *])
    | ((with_reducible apply runO_store); (focus (simp only [go_sem]; rfl)); (focus (simp only [go_sem, *]; rfl)); (focus (simp only [go_sem, *]; rfl)); (focus (simp only [go_sem, *]; done)); (focus (simp only [go_sem, *]; done)); (focus (simp only [go_sem, *]; done)); (with_reducible apply runO_go); simp only [go_sem, *, Heap.set_set])
    | ((first | (with_reducible apply runA_and) | (with_reducible apply runO_and) | (with_reducible apply runD_and)); (focus (first | assumption | (simp only [go_sem, *]; done) | (simp only [go_sem, *]; assumption))); (try simp only [go_sem, *]))
    | ((with_reducible apply runO_callF known57); simp only [go_sem, *]; refine (c1 _ (by (repeat (first | assumption | exact Heap.sub_refl _ | refine Heap.sub_congr ?_ | refine Heap.sub_set ?_ (by assumption) | refine Heap.sub_set2 ?_ (by first | assumption | (simp only [*]; done) | (simp only [Heap.set_none', ne_eq, *, not_false_eq_true, and_self]; done)))); done)).use ?_; (with_reducible apply runO_go); simp only [go_sem, *])
          | ((with_reducible apply runO_callF known31); simp only [go_sem, *]; refine (c2 _ (by (repeat (first | assumption | exact Heap.sub_refl _ | refine Heap.sub_congr ?_ | refine Heap.sub_set ?_ (by assumption) | refine Heap.sub_set2 ?_ (by first | assumption | (simp only [*]; done) | (simp only [Heap.set_none', ne_eq, *, not_false_eq_true, and_self]; done)))); done)).use ?_; (with_reducible apply runO_go); simp only [go_sem, *])
    | ((with_reducible apply run_ret Try.func35 res35 (H' := H)); (focus (simp only [go_sem, *]; rfl)); (focus trivial); (focus (repeat (first | assumption | exact Heap.sub_refl _ | refine Heap.sub_congr ?_ | refine Heap.sub_set ?_ (by assumption) | refine Heap.sub_set2 ?_ (by first | assumption | (simp only [*]; done) | (simp only [Heap.set_none', ne_eq, *, not_false_eq_true, and_self]; done)))))))
        generalize pb = p6 at *
        obtain ⟨⟨h64, h64'⟩, hp6⟩ := hpb
        repeat' (first
    | (with_reducible apply run_seq)
    | (with_reducible apply run_block)
    | (with_reducible apply run_inBlock)
    | (with_reducible apply run_skip)
    | (with_reducible apply run_exit rfl)
    | ((with_reducible apply run_go); simp only [go_sem, *])
    | ((with_reducible apply run_cond_t); (focus (simp only [go_sem, *]; done)))
    | ((with_reducible apply run_cond_f); (focus (simp only [go_sem, *]; done)))
    | ((with_reducible apply run_cond); (focus (simp only [go_sem, *]; rfl)); (all_goals intro _))
    | ((with_reducible apply runO_alloc); (focus (simp only [go_sem, *]; rfl)); intro pb hpb; have hfb := Heap.ne_of_none hpb; (try simp only [Heap.set_none'] at hpb); (with_reducible apply runO_go); simp only [go_sem, *])
    | ((with_reducible apply runO_store); (focus (simp only [go_sem]; rfl)); (focus (simp only [go_sem, *]; rfl)); (focus (simp only [go_sem, *]; rfl)); (focus (simp only [go_sem, *]; done)); (focus (simp only [go_sem, *]; done)); (focus (simp only [go_sem, *]; done)); (with_reducible apply runO_go); simp only [go_sem, *, Heap.set_set])
    | ((first | (with_reducible apply runA_and) | (with_reducible apply runO_and) | (with_reducible apply runD_and)); (focus (first | assumption | (simp only [go_sem, *]; done) | (simp only [go_sem, *]; assumption))); (try simp only [go_sem, *]))
    | ((with_reducible apply runO_callF known33); simp only [go_sem, *]; refine (c3 _ (by (repeat (first | assumption | exact Heap.sub_refl _ | refine Heap.sub_congr ?_ | refine Heap.sub_set ?_ (by assumption) | refine Heap.sub_set2 ?_ (by first | assumption | (simp only [*]; done) | (simp only [Heap.set_none', ne_eq, *, not_false_eq_true, and_self]; done)))); done)).use ?_; (with_reducible apply runO_go); simp only [go_sem, *])
          | ((with_reducible apply runO_callF known54); simp only [go_sem, *]; refine (c4 _ (by (repeat (first | assumption | exact Heap.sub_refl _ | refine Heap.sub_congr ?_ | refine Heap.sub_set ?_ (by assumption) | refine Heap.sub_set2 ?_ (by first | assumption | (simp only [*]; done) | (simp only [Heap.set_none', ne_eq, *, not_false_eq_true, and_self]; done)))); done)).use ?_; (with_reducible apply runO_go); simp only [go_sem, *])
    | ((with_reducible apply run_ret Try.func35 res35 (H' := H)); (focus (simp only [go_sem, *]; rfl)); (focus trivial); (focus (repeat (first | assumption | exact Heap.sub_refl _ | refine Heap.sub_congr ?_ | refine Heap.sub_set ?_ (by assumption) | refine Heap.sub_set2 ?_ (by first | assumption | (simp only [*]; done) | (simp only [Heap.set_none', ne_eq, *, not_false_eq_true, and_self]; done)))))))
        generalize pb = p8 at *
        obtain ⟨⟨h86, h86'⟩, ⟨h84, h84'⟩, hp8⟩ := hpb
        have n4b : p4 ≠ l.b := fun e => by rw [e, HH.out.hb] at hp4; cases hp4
        have n4c : p4 ≠ l.c := fun e => by rw [e, HH.out.hc] at hp4; cases hp4
        have n6b : p6 ≠ l.b := fun e => by rw [e, HH.out.hb] at hp6; cases hp6
        have n6c : p6 ≠ l.c := fun e => by rw [e, HH.out.hc] at hp6; cases hp6
        have n8b : p8 ≠ l.b := fun e => by rw [e, HH.out.hb] at hp8; cases hp8
        have n8c : p8 ≠ l.c := fun e => by rw [e, HH.out.hc] at hp8; cases hp8
        (with_reducible apply runO_callF known58); simp only [go_sem, *]
        refine (HC.out _ (by (repeat (first | assumption | exact Heap.sub_refl _ | refine Heap.sub_congr ?_ | refine Heap.sub_set ?_ (by assumption) | refine Heap.sub_set2 ?_ (by first | assumption | (simp only [*]; done) | (simp only [Heap.set_none', ne_eq, *, not_false_eq_true, and_self]; done)))); done)).mono (fun d1 H1 hh => ?_)
        obtain ⟨rfl, rfl⟩ := hh
        (with_reducible apply runO_go); simp only [go_sem, *]
        refine run_drop (H' := ((stP H l S).set p4 (.cells [.v (.int .i64 0), .v (.int .i64 0), .v (.int .i64 0), .v (.bool false)] 55)).set p6 (.cells (evC e) 55)) (fun q r hq => ?_) ?_
        · unfold stP stH at hq ⊢
          simp only [Heap.set_at] at hq ⊢
          clear HC HO HH c1 c2 c3 c4 hS
          grind
        have z4 : stP H l S p4 = none := by rw [stP, stH_other n4b n4c]; exact hp4
        have z6 : stP H l S p6 = none := by rw [stP, stH_other n6b n6c]; exact hp6
        clear HC HO HH c1 c2 c3 c4 hS
        generalize stP H l S = HF at *
        repeat' (first
    | (with_reducible apply run_seq)
    | (with_reducible apply run_block)
    | (with_reducible apply run_inBlock)
    | (with_reducible apply run_skip)
    | (with_reducible apply run_exit rfl)
    | ((with_reducible apply run_go); simp only [go_sem, *])
    | ((with_reducible apply run_cond_t); (focus (simp only [go_sem, *]; done)))
    | ((with_reducible apply run_cond_f); (focus (simp only [go_sem, *]; done)))
    | ((with_reducible apply run_cond); (focus (simp only [go_sem, *]; rfl)); (all_goals intro _))
    | ((with_reducible apply runO_alloc); (focus (simp only [go_sem, *]; rfl)); intro pb hpb; have hfb := Heap.ne_of_none hpb; (try simp only [Heap.set_none'] at hpb); (with_reducible apply runO_go); simp only [go_sem, *])
    | ((with_reducible apply runO_store); (focus (simp only [go_sem]; rfl)); (focus (simp only [go_sem, *]; rfl)); (focus (simp only [go_sem, *]; rfl)); (focus (simp only [go_sem, *]; done)); (focus (simp only [go_sem, *]; done)); (focus (simp only [go_sem, *]; done)); (with_reducible apply runO_go); simp only [go_sem, *, Heap.set_set])
    | ((first | (with_reducible apply runA_and) | (with_reducible apply runO_and) | (with_reducible apply runD_and)); (focus (first | assumption | (simp only [go_sem, *]; done) | (simp only [go_sem, *]; assumption))); (try simp only [go_sem, *]))
    | ((with_reducible apply run_ret Try.func35 res35 (H' := HF)); (focus (simp only [go_sem, *]; rfl)); (focus trivial); (focus (repeat (first | assumption | exact Heap.sub_refl _ | refine Heap.sub_congr ?_ | refine Heap.sub_set ?_ (by assumption) | refine Heap.sub_set2 ?_ (by first | assumption | (simp only [*]; done) | (simp only [Heap.set_none', ne_eq, *, not_false_eq_true, and_self]; done))))))
    | ((with_reducible apply run_ret Try.func35 res35 (H' := H)); (focus (simp only [go_sem, *]; rfl)); (focus trivial); (focus (repeat (first | assumption | exact Heap.sub_refl _ | refine Heap.sub_congr ?_ | refine Heap.sub_set ?_ (by assumption) | refine Heap.sub_set2 ?_ (by first | assumption | (simp only [*]; done) | (simp only [Heap.set_none', ne_eq, *, not_false_eq_true, and_self]; done)))))))
        exact ⟨rfl, rfl⟩
end Go.Proofs.Ytobdagjdhgjplaa
