/-
  Heaps with states of ours; plain laws of steps.
-/
import Derived.Test.YtealonjmkcfneaaStK
set_option linter.unusedSimpArgs false
set_option linter.unusedVariables false
namespace Go.Proofs.Ytealonjmkcfneaa
open Go Go.Sn Go.RowKit

section
variable {eT eS : Nat} {K : Heap} {l : Lo} {s s' : St} {p : Nat} {r : Res}
theorem stH_none : stH eT eS K l s p = none ↔ (p ≠ l.b ∧ l.b ≠ p) ∧ (p ≠ l.c ∧ l.c ≠ p) ∧ K p = none := by
  constructor
  · intro h
    have hb : p ≠ l.b := fun e => by unfold stH at h; rw [e, Heap.set_same] at h; cases h
    have hc : p ≠ l.c := fun e => by unfold stH at h; rw [Heap.set_other _ _ hb, e, Heap.set_same] at h; cases h
    exact ⟨⟨hb, fun e => hb e.symm⟩, ⟨hc, fun e => hc e.symm⟩, by rwa [stH_other hb hc] at h⟩
  · rintro ⟨⟨hb, _⟩, ⟨hc, _⟩, h⟩
    rw [stH_other hb hc]
    exact h
@[go_sem] theorem stH_stH' (hne : l.b ≠ l.c) : stH eT eS (stH eT eS K l s) l s' = stH eT eS K l s' := stH_stH hne
@[go_sem] theorem stH_set (h1 : p ≠ l.b) (h2 : p ≠ l.c) : stH eT eS (K.set p r) l s = (stH eT eS K l s).set p r := by
  funext q
  unfold stH
  simp only [Heap.set_at]
  grind
theorem stH_subH (h1 : K l.b = none) (h2 : K l.c = none) : K.sub (stH eT eS K l s) := by
  intro q x hq
  rw [stH_other (fun e => by rw [e, h1] at hq; cases hq) (fun e => by rw [e, h2] at hq; cases hq)]
  exact hq
end
theorem lapp_cons {α : Type} (a : α) (l m : List α) : List.append (a :: l) m = a :: List.append l m := rfl
theorem lapp_nil {α : Type} (m : List α) : List.append [] m = m := rfl
theorem stS_p (s : St) (t : Int) : (s.stS t).p = s.p := by
  have h1 : ∀ (s : St) t x, (s.setTd t x).p = s.p := fun _ _ _ => rfl
  have h2 : ∀ (s : St) t x, (s.setVar t x).p = s.p := fun s t x => by unfold St.setVar; (repeat' split) <;> rfl
  have h3 : ∀ (s : St) t x, (s.setHol t x).p = s.p := fun s t x => by unfold St.setHol; (repeat' split) <;> rfl
  unfold St.stS
  split
  · unfold St.deed St.tick
    repeat' split
    all_goals simp only [h1, h2, h3]
  · rfl
theorem may_4 {s : St} {t : Int} (hm : s.may t = true) (h4 : (s.nxt t).kd = 4) : s.hol (s.nxt t).ob < 0 := by
  unfold St.may at hm
  rw [Bool.and_eq_true] at hm
  have := hm.2
  rw [h4] at this
  simpa using this
/-- What a step does to the mutexes. -/
theorem locks_step {s : St} (hs : OkSt s) (t : Int) (hh : -1 ≤ s.h0 ∧ -1 ≤ s.h1) :
    (s.err t = 0 ∧ (s.nxt t).kd = 4 ∧ 0 ≤ t ∧ (((s.nxt t).ob = 0 ∧ s.h0 = -1 ∧ (s.stS t).h0 = t ∧ (s.stS t).h1 = s.h1) ∨ ((s.nxt t).ob = 1 ∧ s.h1 = -1 ∧ (s.stS t).h0 = s.h0 ∧ (s.stS t).h1 = t))) ∨
    (s.err t = 0 ∧ (s.nxt t).kd = 5 ∧ (((s.nxt t).ob = 0 ∧ s.h0 = t ∧ (s.stS t).h0 = -1 ∧ (s.stS t).h1 = s.h1) ∨ ((s.nxt t).ob = 1 ∧ s.h1 = t ∧ (s.stS t).h0 = s.h0 ∧ (s.stS t).h1 = -1))) ∨
    ((s.err t ≠ 0 ∨ ((s.nxt t).kd ≠ 4 ∧ (s.nxt t).kd ≠ 5)) ∧ (s.stS t).h0 = s.h0 ∧ (s.stS t).h1 = s.h1) := by
  by_cases he : s.err t = 0
  · obtain ⟨hm, hhas, his⟩ := err_0 he
    obtain ⟨hi, _, _⟩ := hs.ins hhas
    have hn : s.nxt t = s.evI t (s.ins t) := by unfold St.nxt; rw [hhas]; rfl
    have hS : s.stS t = (s.tick t).deed t (s.ins t) := by unfold St.stS; rw [if_pos he]
    have ht : 0 ≤ t := by obtain ⟨k, rfl, _⟩ := is_nat his; omega
    have h1 : ∀ x, ((s.tick t).setTd t x).h0 = s.h0 ∧ ((s.tick t).setTd t x).h1 = s.h1 := fun _ => ⟨rfl, rfl⟩
    have h2 : ∀ x n, ((s.tick t).setVar x n).h0 = s.h0 ∧ ((s.tick t).setVar x n).h1 = s.h1 := fun x n => by unfold St.setVar; (repeat' split) <;> exact ⟨rfl, rfl⟩
    have hm4 := fun h => may_4 hm h
    rw [hn] at hm4 ⊢
    rw [hS]
    have hmu := hi.mu
    generalize s.ins t = i at *
    unfold St.evI at hm4 ⊢
    unfold St.deed
    by_cases k1 : i.kd = 1
    · simp only [if_pos k1]; exact .inr (.inr ⟨.inr (by simp), h1 _⟩)
    · by_cases k2 : i.kd = 2
      · simp only [if_neg k1, if_pos k2]; exact .inr (.inr ⟨.inr (by simp), h2 _ _⟩)
      · simp only [if_neg k1, if_neg k2] at hm4 ⊢
        by_cases k5 : i.kd = 5
        · have k3 : i.kd ≠ 3 := by omega
          have k4 : i.kd ≠ 4 := by omega
          simp only [if_pos k5, if_neg k3, if_neg k4] at hm4 ⊢
          have hlt := hm4 trivial
          refine .inl ⟨he, trivial, ht, ?_⟩
          rcases hmu (.inl k5) with hx | hx
          · rw [hx] at hlt ⊢
            have : s.h0 < 0 := hlt
            exact .inl ⟨rfl, by omega, rfl, rfl⟩
          · rw [hx] at hlt ⊢
            have : s.h1 < 0 := hlt
            exact .inr ⟨rfl, by omega, rfl, rfl⟩
        · simp only [if_neg k5] at hm4 ⊢
          by_cases k6 : i.kd = 6
          · have k3 : i.kd ≠ 3 := by omega
            have k4 : i.kd ≠ 4 := by omega
            simp only [if_pos k6, if_neg k3, if_neg k4]
            have hhol : (s.tick t).hol i.x = s.hol i.x := rfl
            by_cases hq : s.hol i.x = t
            · rw [hhol, if_pos hq, if_pos hq]
              refine .inr (.inl ⟨he, rfl, ?_⟩)
              rcases hmu (.inr k6) with hx | hx
              · rw [hx] at hq ⊢; exact .inl ⟨rfl, hq, rfl, rfl⟩
              · rw [hx] at hq ⊢; exact .inr ⟨rfl, hq, rfl, rfl⟩
            · rw [hhol, if_neg hq, if_neg hq]
              exact .inr (.inr ⟨.inr (by simp), rfl, rfl⟩)
          · simp only [if_neg k6]
            refine .inr (.inr ⟨.inr ?_, ?_⟩)
            · split <;> simp
            · repeat' split
              all_goals first | exact h1 _ | exact ⟨rfl, rfl⟩
  · have hS : s.stS t = s := by unfold St.stS; rw [if_neg he]
    rw [hS]
    exact .inr (.inr ⟨.inl he, rfl, rfl⟩)
end Go.Proofs.Ytealonjmkcfneaa
