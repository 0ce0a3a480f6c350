/-
  Plain words of rows of events: those that are free, and sorted by threads.
-/
import Derived.Test.YtobdagjdhgjplaaEvD
set_option linter.unusedSimpArgs false
set_option linter.unusedVariables false
namespace Go.Proofs.Ytobdagjdhgjplaa
open Go Go.Sn Go.RowKit

/-- Events of unlike threads do not depend on one another. -/
def Free (l : List Ev) : Prop := l.Pairwise fun a b => a.th ≠ b.th → depE a b = false
/-- Threads one behind the other, and the others behind them. -/
def sortT (xs : List Int) (l : List Ev) : List Ev := xs.flatMap fun x => l.filter fun e => decide (e.th = x)
theorem sort_congr {l l' : List Ev} : ∀ (xs : List Int), (∀ y ∈ xs, (l.filter fun e => decide (e.th = y)) = l'.filter fun e => decide (e.th = y)) → sortT xs l = sortT xs l'
  | [], _ => rfl
  | x :: xs, h => by
    show (l.filter fun e => decide (e.th = x)) ++ sortT xs l = (l'.filter fun e => decide (e.th = x)) ++ sortT xs l'
    rw [h x (List.mem_cons_self ..), sort_congr xs fun z hz => h z (List.mem_cons_of_mem _ hz)]
theorem sort_map (xs : List Int) (l : List Ev) : (sortT xs l).map (·.th) = xs.flatMap fun x => (l.map (·.th)).filter fun t => decide (t = x) := by
  unfold sortT
  induction xs with
  | nil => rfl
  | cons x xs ih =>
    simp only [List.flatMap_cons, List.map_append, ih]
    congr 1
    rw [List.filter_map]
    rfl
theorem sort_filter {xs : List Int} (hn : xs.Nodup) (l : List Ev) {y : Int} (hy : y ∈ xs) : (sortT xs l).filter (fun e => decide (e.th = y)) = l.filter fun e => decide (e.th = y) := by
  have none : ∀ {x : Int}, x ≠ y → (l.filter fun e => decide (e.th = x)).filter (fun e => decide (e.th = y)) = [] := fun {x} hx => by
    rw [List.filter_filter]
    refine List.filter_eq_nil_iff.2 fun e _ => ?_
    simp only [Bool.and_eq_true, decide_eq_true_eq]
    rintro ⟨h1, h2⟩
    exact hx (h2.symm.trans h1)
  have no : ∀ {zs : List Int}, y ∉ zs → (sortT zs l).filter (fun e => decide (e.th = y)) = [] := fun {zs} => by
    induction zs with
    | nil => intro _; rfl
    | cons z zs ih =>
      intro h
      rw [show sortT (z :: zs) l = l.filter (fun e => decide (e.th = z)) ++ sortT zs l from rfl, List.filter_append, ih fun hm => h (List.mem_cons_of_mem _ hm), none fun e => h (by rw [e]; exact List.mem_cons_self ..)]
      rfl
  induction xs with
  | nil => cases hy
  | cons x xs ih =>
    obtain ⟨hx, hn⟩ := List.nodup_cons.1 hn
    rw [show sortT (x :: xs) l = l.filter (fun e => decide (e.th = x)) ++ sortT xs l from rfl, List.filter_append]
    by_cases he : x = y
    · subst he
      rw [no hx, List.filter_filter, List.append_nil]
      congr 1
      funext e
      simp
    · rw [none he, List.nil_append]
      refine ih hn ?_
      rcases List.mem_cons.1 hy with h | h
      · exact absurd h.symm he
      · exact h
def T4 : List Int := [0, 1, 2, 3]
theorem sort_len {l : List Ev} (h : ∀ e ∈ l, 0 ≤ e.th ∧ e.th < 4) : (sortT T4 l).length = l.length := by
  have h4 : ∀ l : List Ev, (sortT T4 l).length = (l.filter fun e => decide (e.th = 0)).length + ((l.filter fun e => decide (e.th = 1)).length + ((l.filter fun e => decide (e.th = 2)).length + (l.filter fun e => decide (e.th = 3)).length)) := fun l => by
    simp [sortT, T4]
  rw [h4]
  induction l with
  | nil => rfl
  | cons e l ih =>
    have := ih fun f hf => h f (List.mem_cons_of_mem _ hf)
    have he := h e (List.mem_cons_self ..)
    obtain h1 | h1 | h1 | h1 : e.th = 0 ∨ e.th = 1 ∨ e.th = 2 ∨ e.th = 3 := by omega
    all_goals (simp [h1]; omega)
theorem free_step {l : List Ev} {k : Nat} (hk : k < l.length) (h : Free (l.take k)) (hi : ∀ j < k, (l.getD k default).th ≠ (l.getD j default).th → depE (l.getD k default) (l.getD j default) = false) : Free (l.take (k + 1)) := by
  rw [take_succ_getD _ _ hk]
  refine List.pairwise_append.2 ⟨h, by simp, fun a ha b hb hne => ?_⟩
  rw [List.mem_singleton.1 hb] at hne ⊢
  obtain ⟨j, hj, rfl⟩ := List.mem_take_iff_getElem.1 ha
  have hj' : j < k := by omega
  have := hi j hj'
  have e : l.getD j default = l[j] := by simp [List.getD_eq_getElem?_getD, List.getElem?_eq_getElem (show j < l.length by omega)]
  rw [e] at this
  rw [depE_comm]
  exact this fun e => hne e.symm
def pkE (l : List Ev) (t : Int) (k : Nat) : List Ev := (l.take k).filter fun e => decide (e.th = t)
theorem pkE_succ (l : List Ev) (t : Int) {k : Nat} (h : k < l.length) : pkE l t (k + 1) = if (l.getD k default).th = t then pkE l t k ++ [l.getD k default] else pkE l t k := by
  unfold pkE
  rw [take_succ_getD _ _ h, List.filter_append]
  generalize l.getD k default = x
  by_cases he : x.th = t
  · rw [if_pos he]; simp [he]
  · rw [if_neg he]; simp [he]
theorem pkE_len (l : List Ev) (t : Int) (k : Nat) : (pkE l t k).length ≤ l.length := Nat.le_trans (List.length_filter_le _ _) (by rw [List.length_take]; omega)
theorem sortT_succ (xs : List Int) (l : List Ev) {t : Nat} (h : t < xs.length) : sortT (xs.take (t + 1)) l = sortT (xs.take t) l ++ pkE l (xs.getD t default) l.length := by
  unfold sortT
  rw [take_flatMap _ _ h]
  unfold pkE
  rw [List.take_length]
theorem sortT_len (l : List Ev) : ∀ xs : List Int, (sortT xs l).length ≤ xs.length * l.length
  | [] => by simp [sortT]
  | x :: xs => by
    have h1 := sortT_len l xs
    have h2 := List.length_filter_le (fun e => decide (e.th = x)) l
    rw [show sortT (x :: xs) l = l.filter (fun e => decide (e.th = x)) ++ sortT xs l from rfl, List.length_append, List.length_cons, Nat.add_mul]
    omega
end Go.Proofs.Ytobdagjdhgjplaa
