/-
  Plain laws of what threads do next; steps that do not depend on one another.
-/
import Derived.Test.YtcfeklnmampndaaStV
set_option linter.unusedSimpArgs false
set_option linter.unusedVariables false
namespace Go.Proofs.Ytcfeklnmampndaa
open Go Go.Sn Go.RowKit

theorem fmod_ex (i : Int) {n : Nat} (hn : 0 < n) (hn2 : n ≤ 1000000) : ∃ j : Nat, j < n ∧ (IntKind.u64.wrap i).tmod (n : Int) = (j : Int) ∧ IntKind.i64.wrap (j : Int) = (j : Int) := by
  have h0 : 0 ≤ IntKind.u64.wrap i := by rw [IntKind.wrap_u64]; omega
  obtain ⟨m, hm⟩ : ∃ m : Nat, IntKind.u64.wrap i = (m : Int) := ⟨(IntKind.u64.wrap i).toNat, by omega⟩
  refine ⟨m % n, Nat.mod_lt _ hn, by rw [hm, tmodN], ?_⟩
  have := Nat.mod_lt m hn
  exact wrap_nat (by omega) (by omega)
theorem fu64_nat {n : Nat} (h : n ≤ 1000000) : IntKind.u64.wrap (n : Int) = (n : Int) := by rw [IntKind.wrap_u64]; omega
theorem getD_set_ne {α : Type} [Inhabited α] (l : List α) {i k : Nat} (h : i ≠ k) (x : α) : (l.set i x).getD k default = l.getD k default := by
  simp [List.getD_eq_getElem?_getD, List.getElem?_set_ne h]
theorem setTd_td {s : St} {i k : Nat} (h : i ≠ k) (x : Td) : (s.setTd i x).td k = s.td k := getD_set_ne s.ts h x
theorem setVar_ts (s : St) (x n : Int) : (s.setVar x n).ts = s.ts ∧ (s.setVar x n).p = s.p ∧ (s.setVar x n).h0 = s.h0 ∧ (s.setVar x n).h1 = s.h1 := by unfold St.setVar; (repeat' split) <;> exact ⟨rfl, rfl, rfl, rfl⟩
theorem setHol_ts (s : St) (x n : Int) : (s.setHol x n).ts = s.ts ∧ (s.setHol x n).p = s.p := by unfold St.setHol; split <;> exact ⟨rfl, rfl⟩
/-- Other threads stand where they stood. -/
theorem step_td {s : St} {t : Int} {k : Nat} (h : (k : Int) ≠ t) : (s.stS t).td k = s.td k := by
  unfold St.stS
  split
  · rename_i he
    obtain ⟨_, _, his⟩ := err_0 he
    obtain ⟨j, rfl, hj⟩ := is_nat his
    have hne : j ≠ k := fun e => h (by rw [e])
    have hT : (s.tick (j : Int)).td k = s.td k := setTd_td hne _
    have h1 : ∀ x, ((s.tick (j : Int)).setTd j x).td k = s.td k := fun x => (setTd_td hne x).trans hT
    have h2 : ∀ x n, ((s.tick (j : Int)).setVar x n).td k = s.td k := fun x n => by unfold St.td; rw [(setVar_ts _ x n).1]; exact hT
    have h3 : ∀ x n, ((s.tick (j : Int)).setHol x n).td k = s.td k := fun x n => by unfold St.td; rw [(setHol_ts _ x n).1]; exact hT
    unfold St.deed
    repeat' split
    all_goals first | exact h1 _ | exact h2 _ _ | exact h3 _ _ | exact hT
  · rfl
theorem step_len (s : St) (t : Int) : (s.stS t).ts.length = s.ts.length := by
  have h1 : ∀ (s : St) t x, (s.setTd t x).ts.length = s.ts.length := len_setTd
  have h2 : ∀ (s : St) t x, (s.setVar t x).ts.length = s.ts.length := fun s t x => by rw [(setVar_ts s t x).1]
  have h3 : ∀ (s : St) t x, (s.setHol t x).ts.length = s.ts.length := fun s t x => by rw [(setHol_ts s t x).1]
  unfold St.stS
  split
  · unfold St.deed St.tick
    repeat' split
    all_goals simp only [h1, h2, h3]
  · rfl
/-- A mutex is another thread's as it was. -/
theorem step_hol {s : St} (hs : OkSt s) {t : Int} (hh : -1 ≤ s.h0 ∧ -1 ≤ s.h1) {k : Nat} (h : (k : Int) ≠ t) (x : Int) : ((s.stS t).hol x = (k : Int)) ↔ (s.hol x = (k : Int)) := by
  unfold St.hol
  rcases locks_step hs t hh with ⟨_, _, _, ⟨_, a, b, c⟩ | ⟨_, a, b, c⟩⟩ | ⟨_, _, ⟨_, a, b, c⟩ | ⟨_, a, b, c⟩⟩ | ⟨_, b, c⟩
  all_goals (rw [b, c]; first | done | (split <;> omega))
theorem own_step {s : St} (hs : OkSt s) {t : Int} (hh : -1 ≤ s.h0 ∧ -1 ≤ s.h1) {k : Nat} (h : (k : Int) ≠ t) : (s.stS t).has k = s.has k ∧ (s.stS t).nxt k = s.nxt k := by
  have htd := step_td (s := s) h
  have hcode : (s.stS t).code (k : Int) = s.code k := by unfold St.code; rw [stS_p]
  have his : (s.stS t).is (k : Int) = s.is k := by unfold St.is; rw [step_len]
  have hhas : (s.stS t).has (k : Int) = s.has k := by unfold St.has; rw [his, htd, hcode]
  have hins : (s.stS t).ins (k : Int) = s.ins k := by unfold St.ins; rw [hhas, htd, hcode]
  have hev : ∀ i, (s.stS t).evI (k : Int) i = s.evI k i := fun i => by
    unfold St.evI
    rw [htd]
    have := step_hol hs hh h i.x
    by_cases hq : s.hol i.x = (k : Int)
    · rw [if_pos hq, if_pos (this.2 hq)]
    · rw [if_neg hq, if_neg fun e => hq (this.1 e)]
  refine ⟨hhas, ?_⟩
  unfold St.nxt
  rw [hhas, hins, hev]
theorem hol_inv {s : St} (hs : OkSt s) (t : Int) (hh : -1 ≤ s.h0 ∧ -1 ≤ s.h1) : -1 ≤ (s.stS t).h0 ∧ -1 ≤ (s.stS t).h1 := by
  rcases locks_step hs t hh with ⟨_, _, _, ⟨_, a, b, c⟩ | ⟨_, a, b, c⟩⟩ | ⟨_, _, ⟨_, a, b, c⟩ | ⟨_, a, b, c⟩⟩ | ⟨_, b, c⟩
  all_goals (rw [b, c]; omega)
/-! ### steps that do not depend on one another -/
def St.effT (s : St) (t : Int) : Td :=
  let i := s.ins t
  let x : Td := ⟨(s.td t).pc + 1, (s.td t).fu - 1, (s.td t).r0, (s.td t).r1⟩
  if i.kd = 1 then x.setReg i.r (s.var i.x) else if i.kd = 3 then x.setReg i.r i.n else if i.kd = 4 then x.setReg i.r (IntKind.i64.wrap (x.reg i.r + i.n)) else
  if i.kd = 7 then (if x.reg i.r = 0 then x else { x with pc := i.x }) else x
def St.effV (s : St) (t : Int) : Option (Int × Int) := if (s.ins t).kd = 2 then some ((s.ins t).x, (s.td t).reg (s.ins t).r) else none
def St.effH (s : St) (t : Int) : Option (Int × Int) :=
  if (s.ins t).kd = 5 then some ((s.ins t).x, t) else if (s.ins t).kd = 6 then (if s.hol (s.ins t).x = t then some ((s.ins t).x, -1) else none) else none
def pvO (v : Option (Int × Int)) (k d : Int) : Int := match v with
  | some (x, n) => if x = k then n else d
  | none => d
/-- A state with a thread, variables, mutexes turned. -/
def St.app (s : St) (t : Int) (x : Td) (v h : Option (Int × Int)) : St :=
  ⟨s.p, s.ts.set t.toNat x, pvO v 0 s.v0, pvO v 1 s.v1, pvO v 2 s.v2, pvO v 3 s.v3, pvO h 0 s.h0, pvO h 1 s.h1⟩
theorem setTd_app (s : St) (t : Int) (x : Td) : s.setTd t x = s.app t x none none := rfl
theorem setTd_tick (s : St) (t : Int) (x : Td) : (s.tick t).setTd t x = s.app t x none none := by
  unfold St.tick St.setTd St.app
  simp only [List.set_set, pvO]
theorem setVar_app (s : St) (t : Int) (x : Td) {k n : Int} (hk : k = 0 ∨ k = 1 ∨ k = 2 ∨ k = 3) : (s.setTd t x).setVar k n = s.app t x (some (k, n)) none := by
  rcases hk with rfl | rfl | rfl | rfl <;> rfl
theorem setHol_app (s : St) (t : Int) (x : Td) {k n : Int} (hk : k = 0 ∨ k = 1) : (s.setTd t x).setHol k n = s.app t x none (some (k, n)) := by
  rcases hk with rfl | rfl <;> rfl
theorem stS_app {s : St} (hs : OkSt s) {t : Int} (he : s.err t = 0) : s.stS t = s.app t (s.effT t) (s.effV t) (s.effH t) := by
  obtain ⟨hm, hhas, his⟩ := err_0 he
  obtain ⟨hi, _, _⟩ := hs.ins hhas
  obtain ⟨k, rfl, hk⟩ := is_nat his
  have hS : s.stS k = (s.tick k).deed k (s.ins k) := by unfold St.stS; rw [if_pos he]
  rw [hS]
  unfold St.deed St.effT St.effV St.effH
  rw [tick_td s hk]
  have hkd := hi.kd
  have hv := hi.var
  have hmu := hi.mu
  have hx0 := hi.x0
  have e1 : ∀ x, (s.tick (k : Int)).var x = s.var x := fun x => rfl
  have e2 : ∀ x, (s.tick (k : Int)).hol x = s.hol x := fun x => rfl
  have e3 : s.tick (k : Int) = s.setTd k ⟨(s.td k).pc + 1, (s.td k).fu - 1, (s.td k).r0, (s.td k).r1⟩ := rfl
  have e4 : ∀ r, Td.reg ⟨(s.td k).pc + 1, (s.td k).fu - 1, (s.td k).r0, (s.td k).r1⟩ r = (s.td (k : Int)).reg r := fun r => rfl
  generalize s.ins (k : Int) = i at *
  simp only [setTd_tick, e1, e2, e4]
  by_cases k1 : i.kd = 1
  · simp [k1]
  by_cases k2 : i.kd = 2
  · simp only [k2]
    have hx : i.x = 0 ∨ i.x = 1 ∨ i.x = 2 ∨ i.x = 3 := by have := hv (.inr k2); omega
    simp only [Int.reduceEq, if_true, if_false, e3, setVar_app _ _ _ hx]
  by_cases k3 : i.kd = 3
  · simp [k3]
  by_cases k4 : i.kd = 4
  · simp [k4]
  by_cases k5 : i.kd = 5
  · simp only [k5]
    simp only [Int.reduceEq, if_true, if_false, e3, setHol_app _ _ _ (hmu (.inl k5))]
  by_cases k6 : i.kd = 6
  · simp only [k6]
    simp only [Int.reduceEq, if_true, if_false]
    split
    · simp only [e3, setHol_app _ _ _ (hmu (.inr k6))]
    · rfl
  by_cases k7 : i.kd = 7
  · simp only [k7]
    simp only [Int.reduceEq, if_true, if_false]
    split
    · rfl
    · rfl
  · simp only [k1, k2, k3, k4, k5, k6, k7, if_false]
    rfl
theorem pvO_comm {v w : Option (Int × Int)} (h : ∀ a b, v = some a → w = some b → a.1 ≠ b.1) (k d : Int) : pvO v k (pvO w k d) = pvO w k (pvO v k d) := by
  unfold pvO
  match v, w with
  | none, none => rfl
  | none, some (y, m) => rfl
  | some (x, n), none => rfl
  | some (x, n), some (y, m) =>
    have := h _ _ rfl rfl
    simp only at this ⊢
    split <;> split <;> first | rfl | omega
theorem app_comm (s : St) {a b : Nat} (hab : a ≠ b) (x y : Td) {va vb ha hb : Option (Int × Int)} (hv : ∀ p q, va = some p → vb = some q → p.1 ≠ q.1) (hh : ∀ p q, ha = some p → hb = some q → p.1 ≠ q.1) :
    (s.app a x va ha).app b y vb hb = (s.app b y vb hb).app a x va ha := by
  unfold St.app
  simp only [Int.toNat_natCast]
  rw [List.set_comm _ _ hab]
  simp only [pvO_comm hv, pvO_comm hh]

theorem may_err {s : St} {t : Int} (h : s.may t = true) : s.err t = 0 := by
  have hhas : s.has t = true := by unfold St.may at h; rw [Bool.and_eq_true] at h; exact h.1
  unfold St.err
  rw [has_is hhas, hhas, h]
  rfl

theorem nxt_has {s : St} {t : Int} (h : s.has t = true) : s.nxt t = s.evI t (s.ins t) := by unfold St.nxt; rw [if_pos h]
theorem evI_th (s : St) (t : Int) (i : In) : (s.evI t i).th = t := by
  unfold St.evI
  repeat' split
  all_goals rfl
theorem nxt_th {s : St} {t : Int} (h : s.has t = true) : (s.nxt t).th = t := by rw [nxt_has h, evI_th]
theorem var_cases {s : St} (hs : OkSt s) {t : Int} {x : Int} (hx : x = 0 ∨ x = 1 ∨ x = 2 ∨ x = 3) (hne : (s.stS t).var x ≠ s.var x) : s.err t = 0 ∧ (s.nxt t).kd = 3 ∧ (s.nxt t).ob = x := by
  rcases vars_step hs t with ⟨he, h3, h⟩ | ⟨h0, h1, h2, h3⟩
  · refine ⟨he, h3, ?_⟩
    rcases hx with rfl | rfl | rfl | rfl <;> rcases h with ⟨ho, a, b, c⟩ | ⟨ho, a, b, c⟩ | ⟨ho, a, b, c⟩ | ⟨ho, a, b, c⟩ <;> first | exact ho | (exfalso; revert hne; simp [St.var, a, b, c])
  · exfalso
    rcases hx with rfl | rfl | rfl | rfl <;> simp [St.var, h0, h1, h2, h3] at hne
theorem hol_cases {s : St} (hs : OkSt s) {t : Int} (hh : -1 ≤ s.h0 ∧ -1 ≤ s.h1) {x : Int} (hx : x = 0 ∨ x = 1) (hne : (s.stS t).hol x ≠ s.hol x) : s.err t = 0 ∧ ((s.nxt t).kd = 4 ∨ (s.nxt t).kd = 5) ∧ (s.nxt t).ob = x := by
  rcases locks_step hs t hh with ⟨he, h4, _, h⟩ | ⟨he, h5, h⟩ | ⟨_, a, b⟩
  · refine ⟨he, .inl h4, ?_⟩
    rcases hx with rfl | rfl <;> rcases h with ⟨ho, a, b, c⟩ | ⟨ho, a, b, c⟩ <;> first | exact ho | (exfalso; revert hne; simp [St.hol, b, c])
  · refine ⟨he, .inr h5, ?_⟩
    rcases hx with rfl | rfl <;> rcases h with ⟨ho, a, b, c⟩ | ⟨ho, a, b, c⟩ <;> first | exact ho | (exfalso; revert hne; simp [St.hol, b, c])
  · exfalso
    rcases hx with rfl | rfl <;> simp [St.hol, a, b] at hne
theorem dep_mem {a b : Ev} (ha : a.kd = 2 ∨ a.kd = 3) (hb : b.kd = 2 ∨ b.kd = 3) (h3 : a.kd = 3 ∨ b.kd = 3) (ho : a.ob = b.ob) : depE a b = true := by
  unfold depE clsE
  rw [if_pos ha, if_pos hb, ho]
  rcases h3 with h | h <;> simp [h]
theorem dep_mu {a b : Ev} (ha : a.kd = 4 ∨ a.kd = 5) (hb : b.kd = 4 ∨ b.kd = 5) (ho : a.ob = b.ob) : depE a b = true := by
  unfold depE clsE
  have h1 : ¬ (a.kd = 2 ∨ a.kd = 3) := by omega
  have h2 : ¬ (b.kd = 2 ∨ b.kd = 3) := by omega
  rw [if_neg h1, if_neg h2, if_pos ha, if_pos hb, ho]
  have h3 : ¬ a.kd = 2 := by omega
  simp [h3]
theorem effV_ev {s : St} {t : Int} (h : s.has t = true) {q : Int × Int} (he : s.effV t = some q) : (s.nxt t).kd = 3 ∧ (s.nxt t).ob = q.1 := by
  unfold St.effV at he
  rw [nxt_has h]
  unfold St.evI
  split at he
  · rename_i h2
    cases he
    have h1 : ¬ (s.ins t).kd = 1 := by omega
    rw [if_neg h1, if_pos h2]
    exact ⟨rfl, rfl⟩
  · cases he
theorem effH_ev {s : St} {t : Int} (h : s.has t = true) {q : Int × Int} (he : s.effH t = some q) : ((s.nxt t).kd = 4 ∨ (s.nxt t).kd = 5) ∧ (s.nxt t).ob = q.1 := by
  unfold St.effH at he
  rw [nxt_has h]
  unfold St.evI
  split at he
  · rename_i h5
    cases he
    have h1 : ¬ (s.ins t).kd = 1 := by omega
    have h2 : ¬ (s.ins t).kd = 2 := by omega
    rw [if_neg h1, if_neg h2, if_pos h5]
    exact ⟨.inl rfl, rfl⟩
  · rename_i h5
    split at he
    · rename_i h6
      split at he
      · rename_i hq
        cases he
        have h1 : ¬ (s.ins t).kd = 1 := by omega
        have h2 : ¬ (s.ins t).kd = 2 := by omega
        rw [if_neg h1, if_neg h2, if_neg h5, if_pos h6, if_pos hq]
        exact ⟨.inr rfl, rfl⟩
      · cases he
    · cases he
/-- Behind a step on which its next event does not depend, a thread may as it might. -/
theorem indep_may {s : St} (hs : OkSt s) (hh : -1 ≤ s.h0 ∧ -1 ≤ s.h1) {t : Int} {k : Nat} (hk : (k : Int) ≠ t) (hd : depE (s.nxt t) (s.nxt k) = false) : (s.stS t).may k = s.may k := by
  obtain ⟨h1, h2⟩ := own_step hs hh hk
  unfold St.may
  rw [h1, h2]
  cases hhas : s.has (k : Int) with
  | false => rfl
  | true =>
    by_cases h4 : (s.nxt (k : Int)).kd = 4
    · have hob := nxt_ob hs hhas h4
      by_cases hq : (s.stS t).hol (s.nxt (k : Int)).ob = s.hol (s.nxt (k : Int)).ob
      · rw [hq]
      · obtain ⟨_, hkd, ho⟩ := hol_cases hs hh hob hq
        rw [dep_mu hkd (.inl h4) ho] at hd
        cases hd
    · simp [h4]
theorem indep_err {s : St} (hs : OkSt s) (hh : -1 ≤ s.h0 ∧ -1 ≤ s.h1) {t u : Int} (hk : u ≠ t) (hd : depE (s.nxt t) (s.nxt u) = false) : (s.stS t).err u = s.err u := by
  have his : (s.stS t).is u = s.is u := by unfold St.is; rw [step_len]
  unfold St.err
  rw [his]
  cases hi : s.is u with
  | false => rfl
  | true =>
    obtain ⟨k, rfl, _⟩ := is_nat hi
    rw [(own_step hs hh hk).1, indep_may hs hh hk hd]
theorem own_nxt {s : St} (hs : OkSt s) (hh : -1 ≤ s.h0 ∧ -1 ≤ s.h1) {t u : Int} (hk : u ≠ t) : (s.stS t).has u = s.has u ∧ (s.stS t).nxt u = s.nxt u := by
  have his : (s.stS t).is u = s.is u := by unfold St.is; rw [step_len]
  cases hi : s.is u with
  | true =>
    obtain ⟨k, rfl, _⟩ := is_nat hi
    exact own_step hs hh hk
  | false =>
    have h1 : s.has u = false := by unfold St.has; rw [hi]; rfl
    have h2 : (s.stS t).has u = false := by unfold St.has; rw [his, hi]; rfl
    unfold St.nxt
    rw [h1, h2]
    exact ⟨rfl, rfl⟩
theorem eff_step {s : St} (hs : OkSt s) (hh : -1 ≤ s.h0 ∧ -1 ≤ s.h1) {t : Int} {k : Nat} (hk : (k : Int) ≠ t) (hhas : s.has (k : Int) = true) (hd : depE (s.nxt t) (s.nxt k) = false) :
    (s.stS t).effT k = s.effT k ∧ (s.stS t).effV k = s.effV k ∧ (s.stS t).effH k = s.effH k := by
  have htd := step_td (s := s) hk
  have hcode : (s.stS t).code (k : Int) = s.code k := by unfold St.code; rw [stS_p]
  have hh1 := (own_step hs hh hk).1
  have hins : (s.stS t).ins (k : Int) = s.ins k := by unfold St.ins; rw [hh1, htd, hcode]
  have hi := (hs.ins hhas).1
  have hhol := step_hol hs hh hk (s.ins k).x
  refine ⟨?_, ?_, ?_⟩
  · unfold St.effT
    rw [htd, hins]
    by_cases k1 : (s.ins (k : Int)).kd = 1
    · simp only [if_pos k1]
      have hx : (s.ins (k : Int)).x = 0 ∨ (s.ins (k : Int)).x = 1 ∨ (s.ins (k : Int)).x = 2 ∨ (s.ins (k : Int)).x = 3 := by have := hi.var (.inl k1); have := hi.x0; omega
      by_cases hq : (s.stS t).var (s.ins (k : Int)).x = s.var (s.ins (k : Int)).x
      · rw [hq]
      · obtain ⟨_, h3, ho⟩ := var_cases hs hx hq
        have hn : s.nxt (k : Int) = ⟨k, 2, (s.ins (k : Int)).x, false⟩ := by rw [nxt_has hhas]; unfold St.evI; rw [if_pos k1]
        rw [dep_mem (.inr h3) (by rw [hn]; exact .inl rfl) (.inl h3) (by rw [hn]; exact ho)] at hd
        cases hd
    · simp only [if_neg k1]
  · unfold St.effV
    rw [htd, hins]
  · unfold St.effH
    rw [hins]
    by_cases hq : s.hol (s.ins (k : Int)).x = (k : Int)
    · rw [if_pos hq, if_pos (hhol.2 hq)]
    · rw [if_neg hq, if_neg fun e => hq (hhol.1 e)]
/-- THE DIAMOND. -/
theorem indep_comm {s : St} (hs : OkSt s) (hh : -1 ≤ s.h0 ∧ -1 ≤ s.h1) {t u : Int} (hk : u ≠ t) (hd : depE (s.nxt t) (s.nxt u) = false) (ht : s.err t = 0) (hu : s.err u = 0) : (s.stS t).stS u = (s.stS u).stS t := by
  obtain ⟨_, ht1, ht2⟩ := err_0 ht
  obtain ⟨_, hu1, hu2⟩ := err_0 hu
  obtain ⟨a, rfl, ha⟩ := is_nat ht2
  obtain ⟨b, rfl, hb⟩ := is_nat hu2
  have hd' : depE (s.nxt (b : Int)) (s.nxt (a : Int)) = false := by rw [depE_comm]; exact hd
  have he1 : (s.stS (a : Int)).err b = 0 := by rw [indep_err hs hh hk hd]; exact hu
  have he2 : (s.stS (b : Int)).err a = 0 := by rw [indep_err hs hh (fun e => hk e.symm) hd']; exact ht
  obtain ⟨x1, x2, x3⟩ := eff_step hs hh hk hu1 hd
  obtain ⟨y1, y2, y3⟩ := eff_step hs hh (fun e => hk e.symm) ht1 hd'
  rw [stS_app (ok_stS hs _) he1, stS_app (ok_stS hs _) he2, x1, x2, x3, y1, y2, y3, stS_app hs ht, stS_app hs hu]
  refine app_comm s (fun e => hk (by rw [e])) _ _ (fun p q hp hq => ?_) (fun p q hp hq => ?_)
  · obtain ⟨p1, p2⟩ := effV_ev ht1 hp
    obtain ⟨q1, q2⟩ := effV_ev hu1 hq
    intro e
    rw [dep_mem (.inr p1) (.inr q1) (.inl p1) (by rw [p2, q2, e])] at hd
    cases hd
  · obtain ⟨p1, p2⟩ := effH_ev ht1 hp
    obtain ⟨q1, q2⟩ := effH_ev hu1 hq
    intro e
    rw [dep_mu p1 q1 (by rw [p2, q2, e])] at hd
    cases hd
/-- What a state is in which rows can be turned. -/
structure OkH (s : St) : Prop where
  ok : OkSt s
  hol : -1 ≤ s.h0 ∧ -1 ≤ s.h1
theorem OkH.step {s : St} (h : OkH s) (t : Int) : OkH (s.stS t) := ⟨ok_stS h.ok t, hol_inv h.ok t h.hol⟩
theorem okH_new {p : Pg} {fuel : Int} (h : okN p fuel = true) : OkH (newS p fuel) := ⟨okN_ok h, by show (-1 : Int) ≤ -1; omega, by show (-1 : Int) ≤ -1; omega⟩
end Go.Proofs.Ytcfeklnmampndaa
