/-
  Contracts: which programs may be.
-/
import Derived.Test.YtobdagjdhgjplaaPgA
set_option linter.unusedSimpArgs false
set_option linter.unusedVariables false
namespace Go.Proofs.Ytobdagjdhgjplaa
open Go Go.Sn Go.RowKit

def okVM (v m : Int) : Prop := (0 ≤ v ∧ v ≤ 4) ∧ (0 ≤ m ∧ m ≤ 2)

theorem wrong_call (W : World) (H : Heap) (pp pc e1 e2 : Nat) (p : Pg) (c : List In) (i : In) (h1 : H pp = some (.cells (pgC p) e1)) (h2 : H pc = some (.cells [.list (insC c)] e2)) (hv : okVM p.vs p.ms) (hc : c.length ≤ 1000000) :
    CallA Try.prog W 85 [.agg (inC i), .v (.pointer (some ⟨pp, 0, none⟩)), .v (.pointer (some ⟨pc, 0, none⟩))] H fun r H' => r = .v (.bool (!insR p.vs p.ms (c.length : Int) i)) ∧ H' = H := by
  refine call_in Try.func85 rfl Try.ntmps85 (by simp) ?_
  have hc2 : 0 ≤ (c.length : Int) ∧ (c.length : Int) ≤ 1000000 := by omega
  repeat' (first
    | (with_reducible apply run_seq)
    | (with_reducible apply run_block)
    | (with_reducible apply run_inBlock)
    | (with_reducible apply run_skip)
    | (with_reducible apply run_exit rfl)
    | ((with_reducible apply run_go); simp only [go_sem, *])
    | ((with_reducible apply runO_box); (focus (simp only [go_sem, *]; done)); intro pb hpb; have hfb := Heap.ne_of_none hpb; (try simp only [Heap.set_none'] at hpb); (with_reducible apply runO_go); simp only [go_sem, *])
    | ((first | (with_reducible apply runA_and) | (with_reducible apply runO_and) | (with_reducible apply runD_and)); (focus (first | assumption | (simp only [go_sem, *]; done) | (simp only [go_sem, *]; assumption))); (try simp only [go_sem, *]))
    | ((with_reducible apply runO_callF known86); simp only [go_sem, *]; refine (instr_call W _ pp e1 p (c.length : Int) i (by simp only [go_sem, *]) hv.1 hv.2 hc2).use ?_; (with_reducible apply runO_go); simp only [go_sem, *])
    | ((with_reducible apply run_ret Try.func85 res85 (H' := H)); (focus (simp only [go_sem, *]; rfl)); (focus trivial); (focus (repeat (first | assumption | exact Heap.sub_refl _ | refine Heap.sub_congr ?_ | refine Heap.sub_set ?_ (by assumption) | refine Heap.sub_set2 ?_ (by first | assumption | (simp only [*]; done) | (simp only [Heap.set_none', ne_eq, *, not_false_eq_true, and_self]; done)))))))
  exact ⟨rfl, rfl⟩

/-- The place of the first that is not so. -/
def badG {α : Type} (p : α → Bool) (l : List α) : Int := if l.all p then -1 else ((l.findIdx fun e => !p e : Nat) : Int)
theorem badG_of {α : Type} [Inhabited α] {p : α → Bool} {l : List α} {k : Nat} (h : k < l.length) (ha : (l.take k).all p = true) (hk : p (l.getD k default) = false) : badG p l = (k : Int) := by
  rw [badG, if_neg (by rw [all_notG h hk]; simp)]
  congr 1
  rw [List.findIdx_eq h]
  refine ⟨by simpa [List.getD, h] using hk, fun j hj => ?_⟩
  have := List.all_eq_true.1 ha (l[j]'(by omega)) (List.mem_take_iff_getElem.2 ⟨j, by omega, rfl⟩)
  simp [this]

theorem indexI_call (W : World) (H : Heap) (pp pc e1 e2 : Nat) (p : Pg) (c : List In) (h1 : H pp = some (.cells (pgC p) e1)) (h2 : H pc = some (.cells [.list (insC c)] e2)) (hv : okVM p.vs p.ms) (hc : c.length ≤ 1000000) :
    CallA Try.prog W 93 [.list (insC c), .v (.func (.func 85) #[] #[.pointer (some ⟨pp, 0, none⟩), .pointer (some ⟨pc, 0, none⟩)])] H fun r H' =>
      r = .v (.int .i64 (badG (insR p.vs p.ms (c.length : Int)) c)) ∧ H' = H := by
  refine call_in Try.func93 rfl Try.ntmps93 (by simp) ?_
  generalize hq : insR p.vs p.ms (c.length : Int) = q
  have cw : ∀ i, CallA Try.prog W 85 [.agg (inC i), .v (.pointer (some ⟨pp, 0, none⟩)), .v (.pointer (some ⟨pc, 0, none⟩))] H fun r H' => r = .v (.bool (!q i)) ∧ H' = H := by
    intro i
    have := wrong_call W H pp pc e1 e2 p c i h1 h2 hv hc
    rw [hq] at this
    exact this
  clear hq h1 h2
  repeat' (first
    | (with_reducible apply run_seq)
    | (with_reducible apply run_block)
    | (with_reducible apply run_inBlock)
    | (with_reducible apply run_skip)
    | (with_reducible apply run_exit rfl)
    | ((with_reducible apply run_go); simp only [go_sem, *])
    | ((with_reducible apply run_cond_t); (focus (simp only [go_sem, *]; done)))
    | ((with_reducible apply run_cond_f); (focus (simp only [go_sem, *]; done)))
    | ((with_reducible apply run_cond); (focus (simp only [go_sem, *]; rfl)); (all_goals intro _))
    | ((first | (with_reducible apply runA_and) | (with_reducible apply runO_and) | (with_reducible apply runD_and)); (focus (first | assumption | (simp only [go_sem, *]; done) | (simp only [go_sem, *]; assumption))); (try simp only [go_sem, *]))
    | ((with_reducible apply run_ret Try.func93 res93 (H' := H)); (focus (simp only [go_sem, *]; rfl)); (focus trivial); (focus (repeat (first | assumption | exact Heap.sub_refl _ | refine Heap.sub_congr ?_ | refine Heap.sub_set ?_ (by assumption) | refine Heap.sub_set2 ?_ (by first | assumption | (simp only [*]; done) | (simp only [Heap.set_none', ne_eq, *, not_false_eq_true, and_self]; done)))))))
  refine run_loop (fun n e H' => ∃ k : Nat, k ≤ c.length ∧ n = c.length - k ∧ (c.take k).all q = true ∧ e 0 = .list (insC c) ∧ e 1 = .v (.func (.func 85) #[] #[.pointer (some ⟨pp, 0, none⟩), .pointer (some ⟨pc, 0, none⟩)]) ∧ e 7 = .v (.int .i64 (c.length : Int)) ∧ e 8 = .v (.int .i64 (k : Int)) ∧ H = H') c.length
      ⟨0, Nat.zero_le _, rfl, rfl, (by simp only [go_sem, *]), (by simp only [go_sem, *]), (by simp only [go_sem, *]), by simp only [go_sem] <;> rfl, rfl⟩ ?_
  rintro n e H' ih ⟨k, hk, rfl, hall, h0, h1, h7, h8, rfl⟩
  have IH : Hid _ := ih
  clear ih
  have HA : Hid _ := hall
  clear hall
  by_cases hlt : k < c.length
  · have hw := wrap_succ (k := k) (by omega)
    have ck := cw (c.getD k default)
    by_cases hr : q (c.getD k default) = true
    · rw [hr] at ck
      repeat' (first
    | (with_reducible apply run_seq)
    | (with_reducible apply run_block)
    | (with_reducible apply run_inBlock)
    | (with_reducible apply run_skip)
    | (with_reducible apply run_exit rfl)
    | ((with_reducible apply run_go); simp only [go_sem, *])
    | ((with_reducible apply run_cond_t); (focus (simp only [go_sem, *]; done)))
    | ((with_reducible apply run_cond_f); (focus (simp only [go_sem, *]; done)))
    | ((with_reducible apply run_cond); (focus (simp only [go_sem, *]; rfl)); (all_goals intro _))
    | ((first | (with_reducible apply runA_and) | (with_reducible apply runO_and) | (with_reducible apply runD_and)); (focus (first | assumption | (simp only [go_sem, *]; done) | (simp only [go_sem, *]; assumption))); (try simp only [go_sem, *]))
    | ((with_reducible apply runO_callV); (focus (simp only [go_sem, *]; rfl)); (focus (exact known85)); simp only [go_sem, *]; refine (ck).use ?_; (with_reducible apply runO_go); simp only [go_sem, *])
    | ((with_reducible apply run_ret Try.func93 res93 (H' := H)); (focus (simp only [go_sem, *]; rfl)); (focus trivial); (focus (repeat (first | assumption | exact Heap.sub_refl _ | refine Heap.sub_congr ?_ | refine Heap.sub_set ?_ (by assumption) | refine Heap.sub_set2 ?_ (by first | assumption | (simp only [*]; done) | (simp only [Heap.set_none', ne_eq, *, not_false_eq_true, and_self]; done)))))))
      refine IH.out (c.length - (k + 1)) _ _ (by omega) ⟨k + 1, by omega, rfl, all_take_succG hlt HA.out hr, (by simp only [go_sem, *]), (by simp only [go_sem, *]), (by simp only [go_sem, *]), (by simp only [go_sem, *]), rfl⟩
    · have hr' : q (c.getD k default) = false := by simpa using hr
      rw [hr'] at ck
      repeat' (first
    | (with_reducible apply run_seq)
    | (with_reducible apply run_block)
    | (with_reducible apply run_inBlock)
    | (with_reducible apply run_skip)
    | (with_reducible apply run_exit rfl)
    | ((with_reducible apply run_go); simp only [go_sem, *])
    | ((with_reducible apply run_cond_t); (focus (simp only [go_sem, *]; done)))
    | ((with_reducible apply run_cond_f); (focus (simp only [go_sem, *]; done)))
    | ((with_reducible apply run_cond); (focus (simp only [go_sem, *]; rfl)); (all_goals intro _))
    | ((first | (with_reducible apply runA_and) | (with_reducible apply runO_and) | (with_reducible apply runD_and)); (focus (first | assumption | (simp only [go_sem, *]; done) | (simp only [go_sem, *]; assumption))); (try simp only [go_sem, *]))
    | ((with_reducible apply runO_callV); (focus (simp only [go_sem, *]; rfl)); (focus (exact known85)); simp only [go_sem, *]; refine (ck).use ?_; (with_reducible apply runO_go); simp only [go_sem, *])
    | ((with_reducible apply run_ret Try.func93 res93 (H' := H)); (focus (simp only [go_sem, *]; rfl)); (focus trivial); (focus (repeat (first | assumption | exact Heap.sub_refl _ | refine Heap.sub_congr ?_ | refine Heap.sub_set ?_ (by assumption) | refine Heap.sub_set2 ?_ (by first | assumption | (simp only [*]; done) | (simp only [Heap.set_none', ne_eq, *, not_false_eq_true, and_self]; done)))))))
      exact ⟨by rw [badG_of hlt HA.out hr']; rfl, rfl⟩
  · repeat' (first
    | (with_reducible apply run_seq)
    | (with_reducible apply run_block)
    | (with_reducible apply run_inBlock)
    | (with_reducible apply run_skip)
    | (with_reducible apply run_exit rfl)
    | ((with_reducible apply run_go); simp only [go_sem, *])
    | ((with_reducible apply run_cond_t); (focus (simp only [go_sem, *]; done)))
    | ((with_reducible apply run_cond_f); (focus (simp only [go_sem, *]; done)))
    | ((with_reducible apply run_cond); (focus (simp only [go_sem, *]; rfl)); (all_goals intro _))
    | ((first | (with_reducible apply runA_and) | (with_reducible apply runO_and) | (with_reducible apply runD_and)); (focus (first | assumption | (simp only [go_sem, *]; done) | (simp only [go_sem, *]; assumption))); (try simp only [go_sem, *]))
    | ((with_reducible apply run_ret Try.func93 res93 (H' := H)); (focus (simp only [go_sem, *]; rfl)); (focus trivial); (focus (repeat (first | assumption | exact Heap.sub_refl _ | refine Heap.sub_congr ?_ | refine Heap.sub_set ?_ (by assumption) | refine Heap.sub_set2 ?_ (by first | assumption | (simp only [*]; done) | (simp only [Heap.set_none', ne_eq, *, not_false_eq_true, and_self]; done)))))))
    have ha := HA.out
    rw [List.take_of_length_le (Nat.not_lt.1 hlt)] at ha
    exact ⟨by rw [badG, if_pos ha]; rfl, rfl⟩

theorem containsI_call (W : World) (H : Heap) (pp pc e1 e2 : Nat) (p : Pg) (c : List In) (h1 : H pp = some (.cells (pgC p) e1)) (h2 : H pc = some (.cells [.list (insC c)] e2)) (hv : okVM p.vs p.ms) (hc : c.length ≤ 1000000) :
    CallA Try.prog W 87 [.list (insC c), .v (.func (.func 85) #[] #[.pointer (some ⟨pp, 0, none⟩), .pointer (some ⟨pc, 0, none⟩)])] H fun r H' =>
      r = .v (.bool (!c.all (insR p.vs p.ms (c.length : Int)))) ∧ H' = H := by
  refine call_in Try.func87 rfl Try.ntmps87 (by simp) ?_
  have ci := indexI_call W H pp pc e1 e2 p c h1 h2 hv hc
  clear h1 h2
  repeat' (first
    | (with_reducible apply run_seq)
    | (with_reducible apply run_block)
    | (with_reducible apply run_inBlock)
    | (with_reducible apply run_skip)
    | (with_reducible apply run_exit rfl)
    | ((with_reducible apply run_go); simp only [go_sem, *])
    | ((first | (with_reducible apply runA_and) | (with_reducible apply runO_and) | (with_reducible apply runD_and)); (focus (first | assumption | (simp only [go_sem, *]; done) | (simp only [go_sem, *]; assumption))); (try simp only [go_sem, *]))
    | ((with_reducible apply runO_callF known93); simp only [go_sem, *]; refine (ci).use ?_; (with_reducible apply runO_go); simp only [go_sem, *])
    | ((with_reducible apply run_ret Try.func87 res87 (H' := H)); (focus (simp only [go_sem, *]; rfl)); (focus trivial); (focus (repeat (first | assumption | exact Heap.sub_refl _ | refine Heap.sub_congr ?_ | refine Heap.sub_set ?_ (by assumption) | refine Heap.sub_set2 ?_ (by first | assumption | (simp only [*]; done) | (simp only [Heap.set_none', ne_eq, *, not_false_eq_true, and_self]; done)))))))
  refine ⟨vb ?_, rfl⟩
  unfold badG
  split
  · rename_i h; simp [h]
  · rename_i h; simp [h]

/-- A thread may be. -/
def thrR (v m : Int) (c : List In) : Bool := decide (c.length ≤ 8) && c.all (insR v m (c.length : Int))
def rightP (p : Pg) : Bool := decide ((0 ≤ p.vs ∧ p.vs ≤ 4) ∧ (0 ≤ p.ms ∧ p.ms ≤ 2) ∧ 1 ≤ p.th.length ∧ p.th.length ≤ 4) && p.th.all (thrR p.vs p.ms)

set_option maxHeartbeats 4000000 in
theorem rightP_call (W : World) (H : Heap) (p : Pg) (hc : ∀ c ∈ p.th, c.length ≤ 1000000) :
    CallA Try.prog W 65 [.agg (pgC p)] H fun r H' => r = .v (.bool (rightP p)) ∧ H' = H := by
  refine call_in Try.func65 rfl Try.ntmps65 (by simp) ?_
  repeat' (first
    | (with_reducible apply run_seq)
    | (with_reducible apply run_block)
    | (with_reducible apply run_inBlock)
    | (with_reducible apply run_skip)
    | (with_reducible apply run_exit rfl)
    | ((with_reducible apply run_go); simp only [go_sem, *])
    | ((with_reducible apply run_cond_t); (focus (simp only [go_sem, *]; done)))
    | ((with_reducible apply run_cond_f); (focus (simp only [go_sem, *]; done)))
    | ((with_reducible apply run_cond); (focus (simp only [go_sem, *]; rfl)); (all_goals intro _))
    | ((with_reducible apply runO_box); (focus (simp only [go_sem, *]; done)); intro pb hpb; have hfb := Heap.ne_of_none hpb; (try simp only [Heap.set_none'] at hpb); (with_reducible apply runO_go); simp only [go_sem, *])
    | ((with_reducible apply runO_alloc); (focus (simp only [go_sem, *]; rfl)); intro pb hpb; have hfb := Heap.ne_of_none hpb; (try simp only [Heap.set_none'] at hpb); (with_reducible apply runO_go); simp only [go_sem, *])
    | ((with_reducible apply runO_store); (focus (simp only [go_sem]; rfl)); (focus (simp only [go_sem, *]; rfl)); (focus (simp only [go_sem, *]; rfl)); (focus (simp only [go_sem, *]; done)); (focus (simp only [go_sem, *]; done)); (focus (simp only [go_sem, *]; done)); (with_reducible apply runO_go); simp only [go_sem, *, Heap.set_set])
    | ((with_reducible apply runO_skipF); (focus (simp only [go_sem, *]; rfl)); (focus rfl); (with_reducible apply runO_go); simp only [go_sem, *])
    | ((first | (with_reducible apply runA_and) | (with_reducible apply runO_and) | (with_reducible apply runD_and)); (focus (first | assumption | (simp only [go_sem, *]; done) | (simp only [go_sem, *]; assumption))); (try simp only [go_sem, *]))
    | ((with_reducible apply runO_callF known84); simp only [go_sem, *]; refine (within_call W _ _ _ _).use ?_; (with_reducible apply runO_go); simp only [go_sem, *])
    | ((with_reducible apply runO_callFG known84); (focus (simp only [go_sem, *]; rfl)); (focus (intro _; simp only [go_sem, *]; exact within_call W _ _ _ _)); (with_reducible apply runO_go); simp only [go_sem, *])
    | ((with_reducible apply run_ret Try.func65 res65 (H' := H)); (focus (simp only [go_sem, *]; rfl)); (focus trivial); (focus (repeat (first | assumption | exact Heap.sub_refl _ | refine Heap.sub_congr ?_ | refine Heap.sub_set ?_ (by assumption) | refine Heap.sub_set2 ?_ (by first | assumption | (simp only [*]; done) | (simp only [Heap.set_none', ne_eq, *, not_false_eq_true, and_self]; done)))))))
  · rename_i h
    refine ⟨vb ?_, rfl⟩
    unfold rightP
    rw [decide_eq_false]
    · rfl
    · simp only [Bool.or_eq_true, Bool.not_eq_true', Bool.and_eq_false_iff, decide_eq_false_iff_not] at h
      omega
  rename_i h
  have hok : (0 ≤ p.vs ∧ p.vs ≤ 4) ∧ (0 ≤ p.ms ∧ p.ms ≤ 2) ∧ 1 ≤ p.th.length ∧ p.th.length ≤ 4 := by
    simp only [Bool.or_eq_false_iff, Bool.not_eq_false', Bool.and_eq_true, decide_eq_true_eq] at h
    omega
  clear h
  have hv : okVM p.vs p.ms := ⟨hok.1, hok.2.1⟩
  have hR : rightP p = p.th.all (thrR p.vs p.ms) := by unfold rightP; rw [decide_eq_true hok]; rfl
  rw [hR]
  have hl4 : p.th.length ≤ 4 := hok.2.2.2
  clear hok hR
  generalize pb = pp at *
  clear hfb
  refine run_loop (fun n e H' => ∃ k : Nat, k ≤ p.th.length ∧ n = p.th.length - k ∧ (p.th.take k).all (thrR p.vs p.ms) = true ∧ e 1 = .v (.pointer (some ⟨pp, 0, none⟩)) ∧ e 24 = .list (thsC p.th) ∧ e 25 = .v (.int .i64 (p.th.length : Int)) ∧ e 26 = .v (.int .i64 (k : Int)) ∧
      H.set pp (.cells (pgC p) 38) = H') p.th.length
      ⟨0, Nat.zero_le _, rfl, rfl, (by simp only [go_sem, *]), (by simp only [go_sem, *]), (by simp only [go_sem, *]), by simp only [go_sem] <;> rfl, rfl⟩ ?_
  rintro n e H' ih ⟨k, hk, rfl, hall, h1, h24, h25, h26, rfl⟩
  have IH : Hid _ := ih
  clear ih
  have HA : Hid _ := hall
  clear hall
  by_cases hlt : k < p.th.length
  · have hw := wrap_succ (k := k) (by omega)
    have hcl := hc (p.th.getD k []) (by simp [List.getD_eq_getElem?_getD, List.getElem?_eq_getElem hlt])
    generalize hcd : p.th.getD k [] = cd at *
    have hth : thrR p.vs p.ms cd = (decide (cd.length ≤ 8) && cd.all (insR p.vs p.ms (cd.length : Int))) := rfl
    have HC : Hid _ := hc
    clear hc
    have HT : Hid _ := hth
    clear hth
    by_cases h8 : cd.length ≤ 8
    · have n8 : ¬ (8 : Int) < (cd.length : Int) := by omega
      repeat' (first
    | (with_reducible apply run_seq)
    | (with_reducible apply run_block)
    | (with_reducible apply run_inBlock)
    | (with_reducible apply run_skip)
    | (with_reducible apply run_exit rfl)
    | ((with_reducible apply run_go); simp only [go_sem, *])
    | ((with_reducible apply run_cond_t); (focus (simp only [go_sem, *]; done)))
    | ((with_reducible apply run_cond_f); (focus (simp only [go_sem, *]; done)))
    | ((with_reducible apply run_cond); (focus (simp only [go_sem, *]; rfl)); (all_goals intro _))
    | ((with_reducible apply runO_box); (focus (simp only [go_sem, *]; done)); intro pb hpb; have hfb := Heap.ne_of_none hpb; (try simp only [Heap.set_none'] at hpb); (with_reducible apply runO_go); simp only [go_sem, *])
    | ((with_reducible apply runO_alloc); (focus (simp only [go_sem, *]; rfl)); intro pb hpb; have hfb := Heap.ne_of_none hpb; (try simp only [Heap.set_none'] at hpb); (with_reducible apply runO_go); simp only [go_sem, *])
    | ((with_reducible apply runO_store); (focus (simp only [go_sem]; rfl)); (focus (simp only [go_sem, *]; rfl)); (focus (simp only [go_sem, *]; rfl)); (focus (simp only [go_sem, *]; done)); (focus (simp only [go_sem, *]; done)); (focus (simp only [go_sem, *]; done)); (with_reducible apply runO_go); simp only [go_sem, *, Heap.set_set])
    | ((with_reducible apply runO_skipF); (focus (simp only [go_sem, *]; rfl)); (focus rfl); (with_reducible apply runO_go); simp only [go_sem, *])
    | ((first | (with_reducible apply runA_and) | (with_reducible apply runO_and) | (with_reducible apply runD_and)); (focus (first | assumption | (simp only [go_sem, *]; done) | (simp only [go_sem, *]; assumption))); (try simp only [go_sem, *]))
    | ((with_reducible apply run_ret Try.func65 res65 (H' := H)); (focus (simp only [go_sem, *]; rfl)); (focus trivial); (focus (repeat (first | assumption | exact Heap.sub_refl _ | refine Heap.sub_congr ?_ | refine Heap.sub_set ?_ (by assumption) | refine Heap.sub_set2 ?_ (by first | assumption | (simp only [*]; done) | (simp only [Heap.set_none', ne_eq, *, not_false_eq_true, and_self]; done)))))))
      have c1 : CallA Try.prog W 87 [.list (insC cd), .v (.func (.func 85) #[] #[.pointer (some ⟨pp, 0, none⟩), .pointer (some ⟨pb, 0, none⟩)])]
          ((H.set pp (.cells (pgC p) 38)).set pb (.cells [.list (insC cd)] 80)) fun r H' => r = .v (.bool (!cd.all (insR p.vs p.ms (cd.length : Int)))) ∧ H' = _ :=
        containsI_call W _ pp pb 38 80 p cd (by simp only [go_sem, *]) (by simp only [go_sem, *]) hv hcl
      cases hq : cd.all (insR p.vs p.ms (cd.length : Int)) with
      | true =>
        rw [hq] at c1
        repeat' (first
    | (with_reducible apply run_seq)
    | (with_reducible apply run_block)
    | (with_reducible apply run_inBlock)
    | (with_reducible apply run_skip)
    | (with_reducible apply run_exit rfl)
    | ((with_reducible apply run_go); simp only [go_sem, *])
    | ((with_reducible apply run_cond_t); (focus (simp only [go_sem, *]; done)))
    | ((with_reducible apply run_cond_f); (focus (simp only [go_sem, *]; done)))
    | ((with_reducible apply run_cond); (focus (simp only [go_sem, *]; rfl)); (all_goals intro _))
    | ((with_reducible apply runO_box); (focus (simp only [go_sem, *]; done)); intro pb hpb; have hfb := Heap.ne_of_none hpb; (try simp only [Heap.set_none'] at hpb); (with_reducible apply runO_go); simp only [go_sem, *])
    | ((with_reducible apply runO_alloc); (focus (simp only [go_sem, *]; rfl)); intro pb hpb; have hfb := Heap.ne_of_none hpb; (try simp only [Heap.set_none'] at hpb); (with_reducible apply runO_go); simp only [go_sem, *])
    | ((with_reducible apply runO_store); (focus (simp only [go_sem]; rfl)); (focus (simp only [go_sem, *]; rfl)); (focus (simp only [go_sem, *]; rfl)); (focus (simp only [go_sem, *]; done)); (focus (simp only [go_sem, *]; done)); (focus (simp only [go_sem, *]; done)); (with_reducible apply runO_go); simp only [go_sem, *, Heap.set_set])
    | ((with_reducible apply runO_skipF); (focus (simp only [go_sem, *]; rfl)); (focus rfl); (with_reducible apply runO_go); simp only [go_sem, *])
    | ((first | (with_reducible apply runA_and) | (with_reducible apply runO_and) | (with_reducible apply runD_and)); (focus (first | assumption | (simp only [go_sem, *]; done) | (simp only [go_sem, *]; assumption))); (try simp only [go_sem, *]))
    | ((with_reducible apply runO_callFG known87); (focus (simp only [go_sem, *]; rfl)); (focus (intro _; simp only [go_sem, *]; exact c1)); (with_reducible apply runO_go); simp only [go_sem, *])
    | ((with_reducible apply run_ret Try.func65 res65 (H' := H)); (focus (simp only [go_sem, *]; rfl)); (focus trivial); (focus (repeat (first | assumption | exact Heap.sub_refl _ | refine Heap.sub_congr ?_ | refine Heap.sub_set ?_ (by assumption) | refine Heap.sub_set2 ?_ (by first | assumption | (simp only [*]; done) | (simp only [Heap.set_none', ne_eq, *, not_false_eq_true, and_self]; done)))))))
        refine run_drop (Heap.sub_set (Heap.sub_refl _) (by simp only [Heap.set_none', ne_eq, *, not_false_eq_true, and_self])) ?_
        refine IH.out (p.th.length - (k + 1)) _ _ (by omega) ⟨k + 1, by omega, rfl, all_take_succG hlt HA.out ?_, (by simp only [go_sem, *]), (by simp only [go_sem, *]), (by simp only [go_sem, *]), (by simp only [go_sem, *]), rfl⟩
        show thrR p.vs p.ms (p.th.getD k []) = true
        rw [hcd, HT.out, hq, decide_eq_true h8]
        rfl
      | false =>
        rw [hq] at c1
        repeat' (first
    | (with_reducible apply run_seq)
    | (with_reducible apply run_block)
    | (with_reducible apply run_inBlock)
    | (with_reducible apply run_skip)
    | (with_reducible apply run_exit rfl)
    | ((with_reducible apply run_go); simp only [go_sem, *])
    | ((with_reducible apply run_cond_t); (focus (simp only [go_sem, *]; done)))
    | ((with_reducible apply run_cond_f); (focus (simp only [go_sem, *]; done)))
    | ((with_reducible apply run_cond); (focus (simp only [go_sem, *]; rfl)); (all_goals intro _))
    | ((with_reducible apply runO_box); (focus (simp only [go_sem, *]; done)); intro pb hpb; have hfb := Heap.ne_of_none hpb; (try simp only [Heap.set_none'] at hpb); (with_reducible apply runO_go); simp only [go_sem, *])
    | ((with_reducible apply runO_alloc); (focus (simp only [go_sem, *]; rfl)); intro pb hpb; have hfb := Heap.ne_of_none hpb; (try simp only [Heap.set_none'] at hpb); (with_reducible apply runO_go); simp only [go_sem, *])
    | ((with_reducible apply runO_store); (focus (simp only [go_sem]; rfl)); (focus (simp only [go_sem, *]; rfl)); (focus (simp only [go_sem, *]; rfl)); (focus (simp only [go_sem, *]; done)); (focus (simp only [go_sem, *]; done)); (focus (simp only [go_sem, *]; done)); (with_reducible apply runO_go); simp only [go_sem, *, Heap.set_set])
    | ((with_reducible apply runO_skipF); (focus (simp only [go_sem, *]; rfl)); (focus rfl); (with_reducible apply runO_go); simp only [go_sem, *])
    | ((first | (with_reducible apply runA_and) | (with_reducible apply runO_and) | (with_reducible apply runD_and)); (focus (first | assumption | (simp only [go_sem, *]; done) | (simp only [go_sem, *]; assumption))); (try simp only [go_sem, *]))
    | ((with_reducible apply runO_callFG known87); (focus (simp only [go_sem, *]; rfl)); (focus (intro _; simp only [go_sem, *]; exact c1)); (with_reducible apply runO_go); simp only [go_sem, *])
    | ((with_reducible apply run_ret Try.func65 res65 (H' := H)); (focus (simp only [go_sem, *]; rfl)); (focus trivial); (focus (repeat (first | assumption | exact Heap.sub_refl _ | refine Heap.sub_congr ?_ | refine Heap.sub_set ?_ (by assumption) | refine Heap.sub_set2 ?_ (by first | assumption | (simp only [*]; done) | (simp only [Heap.set_none', ne_eq, *, not_false_eq_true, and_self]; done)))))))
        refine ⟨vb ?_, rfl⟩
        rw [all_notG hlt]
        show thrR p.vs p.ms (p.th.getD k []) = false
        rw [hcd, HT.out, hq, decide_eq_true h8]
        rfl
    · have n8 : (8 : Int) < (cd.length : Int) := by omega
      repeat' (first
    | (with_reducible apply run_seq)
    | (with_reducible apply run_block)
    | (with_reducible apply run_inBlock)
    | (with_reducible apply run_skip)
    | (with_reducible apply run_exit rfl)
    | ((with_reducible apply run_go); simp only [go_sem, *])
    | ((with_reducible apply run_cond_t); (focus (simp only [go_sem, *]; done)))
    | ((with_reducible apply run_cond_f); (focus (simp only [go_sem, *]; done)))
    | ((with_reducible apply run_cond); (focus (simp only [go_sem, *]; rfl)); (all_goals intro _))
    | ((with_reducible apply runO_box); (focus (simp only [go_sem, *]; done)); intro pb hpb; have hfb := Heap.ne_of_none hpb; (try simp only [Heap.set_none'] at hpb); (with_reducible apply runO_go); simp only [go_sem, *])
    | ((with_reducible apply runO_alloc); (focus (simp only [go_sem, *]; rfl)); intro pb hpb; have hfb := Heap.ne_of_none hpb; (try simp only [Heap.set_none'] at hpb); (with_reducible apply runO_go); simp only [go_sem, *])
    | ((with_reducible apply runO_store); (focus (simp only [go_sem]; rfl)); (focus (simp only [go_sem, *]; rfl)); (focus (simp only [go_sem, *]; rfl)); (focus (simp only [go_sem, *]; done)); (focus (simp only [go_sem, *]; done)); (focus (simp only [go_sem, *]; done)); (with_reducible apply runO_go); simp only [go_sem, *, Heap.set_set])
    | ((with_reducible apply runO_skipF); (focus (simp only [go_sem, *]; rfl)); (focus rfl); (with_reducible apply runO_go); simp only [go_sem, *])
    | ((first | (with_reducible apply runA_and) | (with_reducible apply runO_and) | (with_reducible apply runD_and)); (focus (first | assumption | (simp only [go_sem, *]; done) | (simp only [go_sem, *]; assumption))); (try simp only [go_sem, *]))
    | ((with_reducible apply run_ret Try.func65 res65 (H' := H)); (focus (simp only [go_sem, *]; rfl)); (focus trivial); (focus (repeat (first | assumption | exact Heap.sub_refl _ | refine Heap.sub_congr ?_ | refine Heap.sub_set ?_ (by assumption) | refine Heap.sub_set2 ?_ (by first | assumption | (simp only [*]; done) | (simp only [Heap.set_none', ne_eq, *, not_false_eq_true, and_self]; done)))))))
      refine ⟨vb ?_, rfl⟩
      rw [all_notG hlt]
      show thrR p.vs p.ms (p.th.getD k []) = false
      rw [hcd, HT.out, decide_eq_false h8]
      rfl
  · repeat' (first
    | (with_reducible apply run_seq)
    | (with_reducible apply run_block)
    | (with_reducible apply run_inBlock)
    | (with_reducible apply run_skip)
    | (with_reducible apply run_exit rfl)
    | ((with_reducible apply run_go); simp only [go_sem, *])
    | ((with_reducible apply run_cond_t); (focus (simp only [go_sem, *]; done)))
    | ((with_reducible apply run_cond_f); (focus (simp only [go_sem, *]; done)))
    | ((with_reducible apply run_cond); (focus (simp only [go_sem, *]; rfl)); (all_goals intro _))
    | ((with_reducible apply runO_box); (focus (simp only [go_sem, *]; done)); intro pb hpb; have hfb := Heap.ne_of_none hpb; (try simp only [Heap.set_none'] at hpb); (with_reducible apply runO_go); simp only [go_sem, *])
    | ((with_reducible apply runO_alloc); (focus (simp only [go_sem, *]; rfl)); intro pb hpb; have hfb := Heap.ne_of_none hpb; (try simp only [Heap.set_none'] at hpb); (with_reducible apply runO_go); simp only [go_sem, *])
    | ((with_reducible apply runO_store); (focus (simp only [go_sem]; rfl)); (focus (simp only [go_sem, *]; rfl)); (focus (simp only [go_sem, *]; rfl)); (focus (simp only [go_sem, *]; done)); (focus (simp only [go_sem, *]; done)); (focus (simp only [go_sem, *]; done)); (with_reducible apply runO_go); simp only [go_sem, *, Heap.set_set])
    | ((with_reducible apply runO_skipF); (focus (simp only [go_sem, *]; rfl)); (focus rfl); (with_reducible apply runO_go); simp only [go_sem, *])
    | ((first | (with_reducible apply runA_and) | (with_reducible apply runO_and) | (with_reducible apply runD_and)); (focus (first | assumption | (simp only [go_sem, *]; done) | (simp only [go_sem, *]; assumption))); (try simp only [go_sem, *]))
    | ((with_reducible apply run_ret Try.func65 res65 (H' := H)); (focus (simp only [go_sem, *]; rfl)); (focus trivial); (focus (repeat (first | assumption | exact Heap.sub_refl _ | refine Heap.sub_congr ?_ | refine Heap.sub_set ?_ (by assumption) | refine Heap.sub_set2 ?_ (by first | assumption | (simp only [*]; done) | (simp only [Heap.set_none', ne_eq, *, not_false_eq_true, and_self]; done)))))))
    obtain rfl : k = p.th.length := by omega
    have ha := HA.out
    rw [List.take_length] at ha
    rw [ha]
    exact ⟨rfl, rfl⟩
end Go.Proofs.Ytobdagjdhgjplaa
