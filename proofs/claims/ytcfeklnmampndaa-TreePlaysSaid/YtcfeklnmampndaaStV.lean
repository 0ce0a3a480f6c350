/-
  Heaps with states of ours; plain laws of steps.
-/
import Derived.Test.YtcfeklnmampndaaStK
set_option linter.unusedSimpArgs false
set_option linter.unusedVariables false
namespace Go.Proofs.Ytcfeklnmampndaa
open Go Go.Sn Go.RowKit

section
variable {eT eS : Nat} {K : Heap} {l : Lo} {s s' : St} {p : Nat} {r : Res}
theorem stH_none : stH eT eS K l s p = none ↔ (p ≠ l.b ∧ l.b ≠ p) ∧ (p ≠ l.c ∧ l.c ≠ p) ∧ K p = none := by
  constructor
  · intro h
    have hb : p ≠ l.b := fun e => by unfold stH at h; rw [e, Heap.set_same] at h; cases h
    have hc : p ≠ l.c := fun e => by unfold stH at h; rw [Heap.set_other _ _ hb, e, Heap.set_same] at h; cases h
    exact ⟨⟨hb, fun e => hb e.symm⟩, ⟨hc, fun e => hc e.symm⟩, by rwa [stH_other hb hc] at h⟩
  · rintro ⟨⟨hb, _⟩, ⟨hc, _⟩, h⟩
    rw [stH_other hb hc]
    exact h
@[go_sem] theorem stH_stH' (hne : l.b ≠ l.c) : stH eT eS (stH eT eS K l s) l s' = stH eT eS K l s' := stH_stH hne
@[go_sem] theorem stH_set (h1 : p ≠ l.b) (h2 : p ≠ l.c) : stH eT eS (K.set p r) l s = (stH eT eS K l s).set p r := by
  funext q
  unfold stH
  simp only [Heap.set_at]
  grind
theorem stH_subH (h1 : K l.b = none) (h2 : K l.c = none) : K.sub (stH eT eS K l s) := by
  intro q x hq
  rw [stH_other (fun e => by rw [e, h1] at hq; cases hq) (fun e => by rw [e, h2] at hq; cases hq)]
  exact hq
end
theorem lapp_cons {α : Type} (a : α) (l m : List α) : List.append (a :: l) m = a :: List.append l m := rfl
theorem lapp_nil {α : Type} (m : List α) : List.append [] m = m := rfl
theorem stE_0 {s : St} {t : Int} (h : s.err t = 0) : s.stE t = s.nxt t := by unfold St.stE; rw [if_pos h]
theorem stS_p (s : St) (t : Int) : (s.stS t).p = s.p := by
  have h1 : ∀ (s : St) t x, (s.setTd t x).p = s.p := fun _ _ _ => rfl
  have h2 : ∀ (s : St) t x, (s.setVar t x).p = s.p := fun s t x => by unfold St.setVar; (repeat' split) <;> rfl
  have h3 : ∀ (s : St) t x, (s.setHol t x).p = s.p := fun s t x => by unfold St.setHol; (repeat' split) <;> rfl
  unfold St.stS
  split
  · unfold St.deed St.tick
    repeat' split
    all_goals simp only [h1, h2, h3]
  · rfl
theorem may_4 {s : St} {t : Int} (hm : s.may t = true) (h4 : (s.nxt t).kd = 4) : s.hol (s.nxt t).ob < 0 := by
  unfold St.may at hm
  rw [Bool.and_eq_true] at hm
  have := hm.2
  rw [h4] at this
  simpa using this
/-- What a step does to the mutexes. -/
theorem locks_step {s : St} (hs : OkSt s) (t : Int) (hh : -1 ≤ s.h0 ∧ -1 ≤ s.h1) :
    (s.err t = 0 ∧ (s.nxt t).kd = 4 ∧ 0 ≤ t ∧ (((s.nxt t).ob = 0 ∧ s.h0 = -1 ∧ (s.stS t).h0 = t ∧ (s.stS t).h1 = s.h1) ∨ ((s.nxt t).ob = 1 ∧ s.h1 = -1 ∧ (s.stS t).h0 = s.h0 ∧ (s.stS t).h1 = t))) ∨
    (s.err t = 0 ∧ (s.nxt t).kd = 5 ∧ (((s.nxt t).ob = 0 ∧ s.h0 = t ∧ (s.stS t).h0 = -1 ∧ (s.stS t).h1 = s.h1) ∨ ((s.nxt t).ob = 1 ∧ s.h1 = t ∧ (s.stS t).h0 = s.h0 ∧ (s.stS t).h1 = -1))) ∨
    ((s.err t ≠ 0 ∨ ((s.nxt t).kd ≠ 4 ∧ (s.nxt t).kd ≠ 5)) ∧ (s.stS t).h0 = s.h0 ∧ (s.stS t).h1 = s.h1) := by
  by_cases he : s.err t = 0
  · obtain ⟨hm, hhas, his⟩ := err_0 he
    obtain ⟨hi, _, _⟩ := hs.ins hhas
    have hn : s.nxt t = s.evI t (s.ins t) := by unfold St.nxt; rw [hhas]; rfl
    have hS : s.stS t = (s.tick t).deed t (s.ins t) := by unfold St.stS; rw [if_pos he]
    have ht : 0 ≤ t := by obtain ⟨k, rfl, _⟩ := is_nat his; omega
    have h1 : ∀ x, ((s.tick t).setTd t x).h0 = s.h0 ∧ ((s.tick t).setTd t x).h1 = s.h1 := fun _ => ⟨rfl, rfl⟩
    have h2 : ∀ x n, ((s.tick t).setVar x n).h0 = s.h0 ∧ ((s.tick t).setVar x n).h1 = s.h1 := fun x n => by unfold St.setVar; (repeat' split) <;> exact ⟨rfl, rfl⟩
    have hm4 := fun h => may_4 hm h
    rw [hn] at hm4 ⊢
    rw [hS]
    have hmu := hi.mu
    generalize s.ins t = i at *
    unfold St.evI at hm4 ⊢
    unfold St.deed
    by_cases k1 : i.kd = 1
    · simp only [if_pos k1]; exact .inr (.inr ⟨.inr (by simp), h1 _⟩)
    · by_cases k2 : i.kd = 2
      · simp only [if_neg k1, if_pos k2]; exact .inr (.inr ⟨.inr (by simp), h2 _ _⟩)
      · simp only [if_neg k1, if_neg k2] at hm4 ⊢
        by_cases k5 : i.kd = 5
        · have k3 : i.kd ≠ 3 := by omega
          have k4 : i.kd ≠ 4 := by omega
          simp only [if_pos k5, if_neg k3, if_neg k4] at hm4 ⊢
          have hlt := hm4 trivial
          refine .inl ⟨he, trivial, ht, ?_⟩
          rcases hmu (.inl k5) with hx | hx
          · rw [hx] at hlt ⊢
            have : s.h0 < 0 := hlt
            exact .inl ⟨rfl, by omega, rfl, rfl⟩
          · rw [hx] at hlt ⊢
            have : s.h1 < 0 := hlt
            exact .inr ⟨rfl, by omega, rfl, rfl⟩
        · simp only [if_neg k5] at hm4 ⊢
          by_cases k6 : i.kd = 6
          · have k3 : i.kd ≠ 3 := by omega
            have k4 : i.kd ≠ 4 := by omega
            simp only [if_pos k6, if_neg k3, if_neg k4]
            have hhol : (s.tick t).hol i.x = s.hol i.x := rfl
            by_cases hq : s.hol i.x = t
            · rw [hhol, if_pos hq, if_pos hq]
              refine .inr (.inl ⟨he, rfl, ?_⟩)
              rcases hmu (.inr k6) with hx | hx
              · rw [hx] at hq ⊢; exact .inl ⟨rfl, hq, rfl, rfl⟩
              · rw [hx] at hq ⊢; exact .inr ⟨rfl, hq, rfl, rfl⟩
            · rw [hhol, if_neg hq, if_neg hq]
              exact .inr (.inr ⟨.inr (by simp), rfl, rfl⟩)
          · simp only [if_neg k6]
            refine .inr (.inr ⟨.inr ?_, ?_⟩)
            · split <;> simp
            · repeat' split
              all_goals first | exact h1 _ | exact ⟨rfl, rfl⟩
  · have hS : s.stS t = s := by unfold St.stS; rw [if_neg he]
    rw [hS]
    exact .inr (.inr ⟨.inl he, rfl, rfl⟩)
/-- What a step does to the variables. -/
theorem vars_step {s : St} (hs : OkSt s) (t : Int) :
    (s.err t = 0 ∧ (s.nxt t).kd = 3 ∧ (((s.nxt t).ob = 0 ∧ (s.stS t).v1 = s.v1 ∧ (s.stS t).v2 = s.v2 ∧ (s.stS t).v3 = s.v3) ∨ ((s.nxt t).ob = 1 ∧ (s.stS t).v0 = s.v0 ∧ (s.stS t).v2 = s.v2 ∧ (s.stS t).v3 = s.v3) ∨
      ((s.nxt t).ob = 2 ∧ (s.stS t).v0 = s.v0 ∧ (s.stS t).v1 = s.v1 ∧ (s.stS t).v3 = s.v3) ∨ ((s.nxt t).ob = 3 ∧ (s.stS t).v0 = s.v0 ∧ (s.stS t).v1 = s.v1 ∧ (s.stS t).v2 = s.v2))) ∨
    ((s.stS t).v0 = s.v0 ∧ (s.stS t).v1 = s.v1 ∧ (s.stS t).v2 = s.v2 ∧ (s.stS t).v3 = s.v3) := by
  by_cases he : s.err t = 0
  · obtain ⟨hm, hhas, his⟩ := err_0 he
    obtain ⟨hi, _, _⟩ := hs.ins hhas
    have hn : s.nxt t = s.evI t (s.ins t) := by unfold St.nxt; rw [hhas]; rfl
    have hS : s.stS t = (s.tick t).deed t (s.ins t) := by unfold St.stS; rw [if_pos he]
    rw [hn, hS]
    have hv := hi.var
    have hx0 := hi.x0
    generalize s.ins t = i at *
    by_cases k2 : i.kd = 2
    · have hx := hv (.inr k2)
      unfold St.evI St.deed
      have k1 : i.kd ≠ 1 := by omega
      simp only [if_pos k2, if_neg k1]
      refine .inl ⟨he, trivial, ?_⟩
      obtain h | h | h | h : i.x = 0 ∨ i.x = 1 ∨ i.x = 2 ∨ i.x = 3 := by omega
      · rw [h]; exact .inl ⟨rfl, rfl, rfl, rfl⟩
      · rw [h]; exact .inr (.inl ⟨rfl, rfl, rfl, rfl⟩)
      · rw [h]; exact .inr (.inr (.inl ⟨rfl, rfl, rfl, rfl⟩))
      · rw [h]; exact .inr (.inr (.inr ⟨rfl, rfl, rfl, rfl⟩))
    · right
      have h3 : ∀ x n, ((s.tick t).setHol x n).v0 = s.v0 ∧ ((s.tick t).setHol x n).v1 = s.v1 ∧ ((s.tick t).setHol x n).v2 = s.v2 ∧ ((s.tick t).setHol x n).v3 = s.v3 := fun x n => by unfold St.setHol; split <;> exact ⟨rfl, rfl, rfl, rfl⟩
      unfold St.deed
      rw [if_neg k2]
      repeat' split
      all_goals first | exact h3 _ _ | exact ⟨rfl, rfl, rfl, rfl⟩
  · have hS : s.stS t = s := by unfold St.stS; rw [if_neg he]
    rw [hS]
    exact .inr ⟨rfl, rfl, rfl, rfl⟩
/-- Two places of states that do not meet. -/
structure Apart (l m : Lo) : Prop where
  bb : l.b ≠ m.b
  bc : l.b ≠ m.c
  cb : l.c ≠ m.b
  cc : l.c ≠ m.c
theorem Apart.symm {l m : Lo} (h : Apart l m) : Apart m l := ⟨fun e => h.bb e.symm, fun e => h.cb e.symm, fun e => h.bc e.symm, fun e => h.cc e.symm⟩
theorem stH_keep {eT eS eT' eS' : Nat} {X : Heap} {l m : Lo} {s s2 : St} (h : AtS eT eS X l s) (hd : Apart l m) : AtS eT eS (stH eT' eS' X m s2) l s :=
  ⟨by rw [stH_other hd.bb hd.bc]; exact h.hb, by rw [stH_other hd.cb hd.cc]; exact h.hc, h.ne, h.cap⟩
theorem stH_swap {eT eS eT' eS' : Nat} {X : Heap} {l m : Lo} {s s2 : St} (hd : Apart l m) : stH eT eS (stH eT' eS' X m s2) l s = stH eT' eS' (stH eT eS X l s) m s2 := by
  funext q
  unfold stH
  simp only [Heap.set_at]
  have h1 := hd.bb
  have h2 := hd.bc
  have h3 := hd.cb
  have h4 := hd.cc
  by_cases a : q = l.b
  · have b : q ≠ m.b := fun e => h1 (a.symm.trans e)
    have c : q ≠ m.c := fun e => h2 (a.symm.trans e)
    simp only [a, h1, h2, if_true, if_false]
  · by_cases a' : q = l.c
    · simp only [a', h3, h4, if_true, if_false]
      try (first | rfl | (split <;> rfl))
    · simp only [a, a', if_false]
end Go.Proofs.Ytcfeklnmampndaa
