/-
  Plain laws of what threads do next; the map of it.
-/
import Derived.Test.YtealonjmkcfneaaStM
import Derived.DeepKeys5
set_option linter.unusedSimpArgs false
set_option linter.unusedVariables false
namespace Go.Proofs.Ytealonjmkcfneaa
open Go Go.Sn Go.RowKit
-- NONE stH_none

theorem getD_set_ne {α : Type} [Inhabited α] (l : List α) {i k : Nat} (h : i ≠ k) (x : α) : (l.set i x).getD k default = l.getD k default := by
  simp [List.getD_eq_getElem?_getD, List.getElem?_set_ne h]
theorem setTd_td {s : St} {i k : Nat} (h : i ≠ k) (x : Td) : (s.setTd i x).td k = s.td k := getD_set_ne s.ts h x
theorem setVar_ts (s : St) (x n : Int) : (s.setVar x n).ts = s.ts ∧ (s.setVar x n).p = s.p ∧ (s.setVar x n).h0 = s.h0 ∧ (s.setVar x n).h1 = s.h1 := by unfold St.setVar; (repeat' split) <;> exact ⟨rfl, rfl, rfl, rfl⟩
theorem setHol_ts (s : St) (x n : Int) : (s.setHol x n).ts = s.ts ∧ (s.setHol x n).p = s.p := by unfold St.setHol; split <;> exact ⟨rfl, rfl⟩
/-- Other threads stand where they stood. -/
theorem step_td {s : St} {t : Int} {k : Nat} (h : (k : Int) ≠ t) : (s.stS t).td k = s.td k := by
  unfold St.stS
  split
  · rename_i he
    obtain ⟨_, _, his⟩ := err_0 he
    obtain ⟨j, rfl, hj⟩ := is_nat his
    have hne : j ≠ k := fun e => h (by rw [e])
    have hT : (s.tick (j : Int)).td k = s.td k := setTd_td hne _
    have h1 : ∀ x, ((s.tick (j : Int)).setTd j x).td k = s.td k := fun x => (setTd_td hne x).trans hT
    have h2 : ∀ x n, ((s.tick (j : Int)).setVar x n).td k = s.td k := fun x n => by unfold St.td; rw [(setVar_ts _ x n).1]; exact hT
    have h3 : ∀ x n, ((s.tick (j : Int)).setHol x n).td k = s.td k := fun x n => by unfold St.td; rw [(setHol_ts _ x n).1]; exact hT
    unfold St.deed
    repeat' split
    all_goals first | exact h1 _ | exact h2 _ _ | exact h3 _ _ | exact hT
  · rfl
theorem step_len (s : St) (t : Int) : (s.stS t).ts.length = s.ts.length := by
  have h1 : ∀ (s : St) t x, (s.setTd t x).ts.length = s.ts.length := len_setTd
  have h2 : ∀ (s : St) t x, (s.setVar t x).ts.length = s.ts.length := fun s t x => by rw [(setVar_ts s t x).1]
  have h3 : ∀ (s : St) t x, (s.setHol t x).ts.length = s.ts.length := fun s t x => by rw [(setHol_ts s t x).1]
  unfold St.stS
  split
  · unfold St.deed St.tick
    repeat' split
    all_goals simp only [h1, h2, h3]
  · rfl
/-- A mutex is another thread's as it was. -/
theorem step_hol {s : St} (hs : OkSt s) {t : Int} (hh : -1 ≤ s.h0 ∧ -1 ≤ s.h1) {k : Nat} (h : (k : Int) ≠ t) (x : Int) : ((s.stS t).hol x = (k : Int)) ↔ (s.hol x = (k : Int)) := by
  unfold St.hol
  rcases locks_step hs t hh with ⟨_, _, _, ⟨_, a, b, c⟩ | ⟨_, a, b, c⟩⟩ | ⟨_, _, ⟨_, a, b, c⟩ | ⟨_, a, b, c⟩⟩ | ⟨_, b, c⟩
  all_goals (rw [b, c]; first | done | (split <;> omega))
theorem own_step {s : St} (hs : OkSt s) {t : Int} (hh : -1 ≤ s.h0 ∧ -1 ≤ s.h1) {k : Nat} (h : (k : Int) ≠ t) : (s.stS t).has k = s.has k ∧ (s.stS t).nxt k = s.nxt k := by
  have htd := step_td (s := s) h
  have hcode : (s.stS t).code (k : Int) = s.code k := by unfold St.code; rw [stS_p]
  have his : (s.stS t).is (k : Int) = s.is k := by unfold St.is; rw [step_len]
  have hhas : (s.stS t).has (k : Int) = s.has k := by unfold St.has; rw [his, htd, hcode]
  have hins : (s.stS t).ins (k : Int) = s.ins k := by unfold St.ins; rw [hhas, htd, hcode]
  have hev : ∀ i, (s.stS t).evI (k : Int) i = s.evI k i := fun i => by
    unfold St.evI
    rw [htd]
    have := step_hol hs hh h i.x
    by_cases hq : s.hol i.x = (k : Int)
    · rw [if_pos hq, if_pos (this.2 hq)]
    · rw [if_neg hq, if_neg fun e => hq (this.1 e)]
  refine ⟨hhas, ?_⟩
  unfold St.nxt
  rw [hhas, hins, hev]
theorem hol_inv {s : St} (hs : OkSt s) (t : Int) (hh : -1 ≤ s.h0 ∧ -1 ≤ s.h1) : -1 ≤ (s.stS t).h0 ∧ -1 ≤ (s.stS t).h1 := by
  rcases locks_step hs t hh with ⟨_, _, _, ⟨_, a, b, c⟩ | ⟨_, a, b, c⟩⟩ | ⟨_, _, ⟨_, a, b, c⟩ | ⟨_, a, b, c⟩⟩ | ⟨_, b, c⟩
  all_goals (rw [b, c]; omega)

/-! ### the map of what threads did next -/
def kcI (n : Int) : Value := .int .i64 n
def eCI (e : Ev) : D := .agg (evC e)
def okK (n : Int) : Prop := (Lit.int .i64 n).wf = true
theorem mtEv : MT Try.prog 32 kcI eCI okK ev0 :=
  ⟨⟨3, 35, Try.underlying32, Maps.int_keyed Try.underlying3, fun k hk => ⟨.int .i64 k, by unfold okK at hk; simp [keyOf, mapKey, Try.underlying3, kcI, hk]⟩, by kernel_rfl⟩, fun a b h => by unfold kcI at h; simpa using h⟩
def whE (s : St) (k : Nat) : List (Int × Ev) := ((List.range k).filter fun (j : Nat) => s.has (j : Int)).map fun (j : Nat) => ((j : Int), s.nxt (j : Int))
theorem whE_succ (s : St) (k : Nat) : whE s (k + 1) = if s.has (k : Int) then whE s k ++ [((k : Int), s.nxt (k : Int))] else whE s k := by
  unfold whE
  rw [List.range_succ, List.filter_append, List.map_append]
  cases h : s.has (k : Int) <;> simp [h]
theorem okK_nat {k : Nat} (h : k ≤ 1000000) : okK (k : Int) := by
  have m1 : IntKind.i64.min = -9223372036854775808 := rfl
  have m2 : IntKind.i64.max = 9223372036854775807 := rfl
  unfold okK
  simp only [Lit.wf, Bool.and_eq_true, decide_eq_true_eq, m1, m2]
  omega
theorem whE_mem {s : St} {k : Nat} {x : Int × Ev} (h : x ∈ whE s k) : ∃ j : Nat, j < k ∧ s.has (j : Int) = true ∧ x = ((j : Int), s.nxt j) := by
  unfold whE at h
  obtain ⟨j, hj, rfl⟩ := List.mem_map.1 h
  rw [List.mem_filter, List.mem_range] at hj
  exact ⟨j, hj.1, hj.2, rfl⟩
theorem whE_keys (s : St) : ∀ k : Nat, ((whE s k).map (·.1)).Nodup
  | 0 => by simp [whE]
  | k + 1 => by
    rw [whE_succ]
    split
    · rw [List.map_append, List.nodup_append]
      refine ⟨whE_keys s k, by simp, fun a ha b hb => ?_⟩
      obtain ⟨x, hx, rfl⟩ := List.mem_map.1 ha
      obtain ⟨j, hj, _, rfl⟩ := whE_mem hx
      simp at hb
      subst hb
      simp only [ne_eq]
      omega
    · exact whE_keys s k
theorem whE_ok (s : St) {k : Nat} (h : k ≤ 1000000) : MOk okK (whE s k) := ⟨fun x hx => by obtain ⟨j, hj, _, rfl⟩ := whE_mem hx; exact okK_nat (by omega), whE_keys s k⟩
theorem whE_none {s : St} {k j : Nat} (h : k ≤ j) : getM (whE s k) (j : Int) = none := by
  cases hg : getM (whE s k) (j : Int) with
  | none => rfl
  | some v =>
    obtain ⟨i, hi, _, e⟩ := whE_mem (getM_some hg)
    have := congrArg Prod.fst e
    simp only at this
    omega
theorem whE_get {s : St} : ∀ {k j : Nat}, j < k → getM (whE s k) (j : Int) = if s.has (j : Int) then some (s.nxt j) else none
  | k + 1, j, h => by
    rw [whE_succ]
    by_cases e : j = k
    · subst e
      by_cases hh : s.has (j : Int) = true
      · rw [if_pos hh, if_pos hh]
        have := whE_none (s := s) (Nat.le_refl j)
        rw [← putM_new this]
        rw [getM_put, if_pos rfl]
      · rw [if_neg hh, if_neg hh]
        exact whE_none (Nat.le_refl j)
    · have ih := whE_get (s := s) (k := k) (j := j) (by omega)
      split
      · rw [← putM_new (whE_none (Nat.le_refl k)), getM_put, if_neg (by omega)]
        exact ih
      · exact ih
end Go.Proofs.Ytealonjmkcfneaa
