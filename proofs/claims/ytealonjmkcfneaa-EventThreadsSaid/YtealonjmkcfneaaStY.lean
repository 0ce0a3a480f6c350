/-
  Plain laws of rows of events: those that do not depend on one another change places.
-/
import Derived.Test.YtealonjmkcfneaaStP
import Derived.Test.YtealonjmkcfneaaStX
set_option linter.unusedSimpArgs false
set_option linter.unusedVariables false
namespace Go.Proofs.Ytealonjmkcfneaa
open Go Go.Sn Go.RowKit

/-- From a state a row of events is done, and ends in another state. -/
def Evs : St → List Ev → St → Prop
  | s, [], s' => s' = s
  | s, e :: l, s' => s.err e.th = 0 ∧ e = s.nxt e.th ∧ Evs (s.stS e.th) l s'
theorem rpl_evs : ∀ (row : List Int) (s : St), (rpl s row).1 = 0 → Evs s (rpl s row).2.1 (rpl s row).2.2 ∧ (rpl s row).2.1.map (·.th) = row
  | [], s, _ => ⟨rfl, rfl⟩
  | t :: r, s, h => by
    rw [rpl] at h ⊢
    by_cases he : s.err t = 0
    · rw [if_pos he] at h ⊢
      obtain ⟨i1, i2⟩ := rpl_evs r (s.stS t) h
      have hth := nxt_th (err_0 he).2.1
      refine ⟨?_, ?_⟩
      · simp only [Evs]
        rw [hth]
        exact ⟨he, rfl, i1⟩
      · simp only [List.map_cons, i2, hth]
    · rw [if_neg he] at h
      exact absurd h he
theorem evs_rpl : ∀ (l : List Ev) (s s' : St), Evs s l s' → rpl s (l.map (·.th)) = (0, l, s')
  | [], s, s', h => by simp only [Evs] at h; subst h; rfl
  | e :: l, s, s', ⟨h1, h2, h3⟩ => by
    have ih := evs_rpl l _ _ h3
    simp only [List.map_cons]
    rw [rpl, if_pos h1, ih, ← h2]
theorem evs_append : ∀ (a b : List Ev) (s s' : St), Evs s (a ++ b) s' ↔ ∃ m, Evs s a m ∧ Evs m b s'
  | [], b, s, s' => by simp [Evs]
  | e :: a, b, s, s' => by
    simp only [List.cons_append, Evs]
    rw [evs_append a b]
    constructor
    · rintro ⟨h1, h2, m, h3, h4⟩; exact ⟨m, ⟨h1, h2, h3⟩, h4⟩
    · rintro ⟨m, ⟨h1, h2, h3⟩, h4⟩; exact ⟨h1, h2, m, h3, h4⟩
theorem evs_ok : ∀ (l : List Ev) {s s' : St}, OkH s → Evs s l s' → OkH s'
  | [], s, s', h, e => by simp only [Evs] at e; subst e; exact h
  | e :: l, s, s', h, ⟨_, _, h3⟩ => evs_ok l (h.step _) h3
/-- An event goes behind those that do not depend on it. -/
theorem evs_move {x : Ev} : ∀ (F G : List Ev) {s s' : St}, OkH s → (∀ f ∈ F, f.th ≠ x.th ∧ depE x f = false) → Evs s (x :: (F ++ G)) s' → Evs s (F ++ x :: G) s'
  | [], G, s, s', _, _, h => h
  | f :: F, G, s, s', hs, hF, h => by
    obtain ⟨hx1, hx2, hf1, hf2, hr⟩ := h
    obtain ⟨hne, hd⟩ := hF f (List.mem_cons_self ..)
    obtain ⟨_, n2⟩ := own_nxt hs.ok hs.hol (t := x.th) (u := f.th) hne
    rw [n2] at hf2
    have hd' : depE (s.nxt x.th) (s.nxt f.th) = false := by rw [← hx2, ← hf2]; exact hd
    have hd2 : depE (s.nxt f.th) (s.nxt x.th) = false := by rw [depE_comm]; exact hd'
    have e1 := indep_err hs.ok hs.hol hne hd'
    rw [e1] at hf1
    have e2 := indep_err hs.ok hs.hol (fun e => hne e.symm) hd2
    have n3 := (own_nxt hs.ok hs.hol (t := f.th) (u := x.th) (fun e => hne e.symm)).2
    have hc := indep_comm hs.ok hs.hol hne hd' hx1 hf1
    rw [hc] at hr
    refine ⟨hf1, hf2, evs_move F G (hs.step _) (fun g hg => hF g (List.mem_cons_of_mem _ hg)) ⟨by rw [e2]; exact hx1, by rw [n3]; exact hx2, hr⟩⟩
/-- Events of unlike threads do not depend on one another. -/
def Free (l : List Ev) : Prop := l.Pairwise fun a b => a.th ≠ b.th → depE a b = false
/-- The events of one thread ahead of all others. -/
theorem evs_first (x : Int) : ∀ (l : List Ev) {s s' : St}, OkH s → Free l → Evs s l s' → Evs s (l.filter (fun e => decide (e.th = x)) ++ l.filter (fun e => !decide (e.th = x))) s'
  | [], s, s', _, _, h => h
  | e :: l, s, s', hs, hF, ⟨h1, h2, h3⟩ => by
    obtain ⟨hf1, hf2⟩ := List.pairwise_cons.1 hF
    have ih := evs_first x l (hs.step e.th) hf2 h3
    by_cases hx : e.th = x
    · rw [List.filter_cons_of_pos (by simp [hx]), List.filter_cons_of_neg (by simp [hx])]
      exact ⟨h1, h2, ih⟩
    · rw [List.filter_cons_of_neg (by simp [hx]), List.filter_cons_of_pos (by simp [hx])]
      refine evs_move _ _ hs (fun f hf => ?_) ⟨h1, h2, ih⟩
      obtain ⟨hm, hft⟩ := List.mem_filter.1 hf
      simp only [decide_eq_true_eq] at hft
      have hne : f.th ≠ e.th := by rw [hft]; exact fun e => hx e.symm
      exact ⟨hne, hf1 f hm fun e => hne e.symm⟩
/-- Threads one behind the other, and the others behind them. -/
def sortT (xs : List Int) (l : List Ev) : List Ev := xs.flatMap fun x => l.filter fun e => decide (e.th = x)
theorem sort_congr {l l' : List Ev} : ∀ (xs : List Int), (∀ y ∈ xs, (l.filter fun e => decide (e.th = y)) = l'.filter fun e => decide (e.th = y)) → sortT xs l = sortT xs l'
  | [], _ => rfl
  | x :: xs, h => by
    show (l.filter fun e => decide (e.th = x)) ++ sortT xs l = (l'.filter fun e => decide (e.th = x)) ++ sortT xs l'
    rw [h x (List.mem_cons_self ..), sort_congr xs fun z hz => h z (List.mem_cons_of_mem _ hz)]
theorem evs_sort : ∀ (xs : List Int) (l : List Ev) {s s' : St}, xs.Nodup → OkH s → Free l → Evs s l s' → Evs s (sortT xs l ++ l.filter (fun e => !decide (e.th ∈ xs))) s'
  | [], l, s, s', _, _, _, h => by
    have : l.filter (fun e => !decide (e.th ∈ ([] : List Int))) = l := List.filter_eq_self.2 fun a _ => by simp
    rw [this]
    exact h
  | x :: xs, l, s, s', hn, hs, hF, h => by
    obtain ⟨hx, hn⟩ := List.nodup_cons.1 hn
    have h1 := evs_first x l hs hF h
    obtain ⟨m, ha, hb⟩ := (evs_append _ _ _ _).1 h1
    have h2 := evs_sort xs _ hn (evs_ok _ hs ha) (List.Pairwise.sublist List.filter_sublist hF) hb
    have e1 : sortT xs (l.filter fun e => !decide (e.th = x)) = sortT xs l := by
      have : ∀ y ∈ xs, (l.filter fun e => !decide (e.th = x)).filter (fun e => decide (e.th = y)) = l.filter fun e => decide (e.th = y) := fun y hy => by
        rw [List.filter_filter]
        congr 1
        funext e
        by_cases hey : e.th = y
        · have : y ≠ x := fun e => hx (by rw [← e]; exact hy)
          simp [hey, this]
        · simp [hey]
      exact sort_congr xs this
    have e2 : (l.filter fun e => !decide (e.th = x)).filter (fun e => !decide (e.th ∈ xs)) = l.filter fun e => !decide (e.th ∈ x :: xs) := by
      rw [List.filter_filter]
      congr 1
      funext e
      by_cases h1 : e.th = x <;> by_cases h2 : e.th ∈ xs <;> simp [h1, h2]
    rw [e1, e2] at h2
    rw [show sortT (x :: xs) l = l.filter (fun e => decide (e.th = x)) ++ sortT xs l from rfl, List.append_assoc]
    exact (evs_append _ _ _ _).2 ⟨m, ha, h2⟩
theorem evs_th : ∀ (l : List Ev) {s s' : St}, OkSt s → Evs s l s' → ∀ e ∈ l, 0 ≤ e.th ∧ e.th < 4
  | [], _, _, _, _, f, hf => by cases hf
  | e :: l, s, s', hs, ⟨h1, h2, h3⟩, f, hf => by
    rcases List.mem_cons.1 hf with rfl | hf
    · obtain ⟨_, _, his⟩ := err_0 h1
      obtain ⟨k, hk, hk2⟩ := is_nat his
      have := (ok_len hs).1
      omega
    · exact evs_th l (ok_stS hs _) h3 f hf
theorem sort_map (xs : List Int) (l : List Ev) : (sortT xs l).map (·.th) = xs.flatMap fun x => (l.map (·.th)).filter fun t => decide (t = x) := by
  unfold sortT
  induction xs with
  | nil => rfl
  | cons x xs ih =>
    simp only [List.flatMap_cons, List.map_append, ih]
    congr 1
    rw [List.filter_map]
    rfl
theorem sort_filter {xs : List Int} (hn : xs.Nodup) (l : List Ev) {y : Int} (hy : y ∈ xs) : (sortT xs l).filter (fun e => decide (e.th = y)) = l.filter fun e => decide (e.th = y) := by
  have none : ∀ {x : Int}, x ≠ y → (l.filter fun e => decide (e.th = x)).filter (fun e => decide (e.th = y)) = [] := fun {x} hx => by
    rw [List.filter_filter]
    refine List.filter_eq_nil_iff.2 fun e _ => ?_
    simp only [Bool.and_eq_true, decide_eq_true_eq]
    rintro ⟨h1, h2⟩
    exact hx (h2.symm.trans h1)
  have no : ∀ {zs : List Int}, y ∉ zs → (sortT zs l).filter (fun e => decide (e.th = y)) = [] := fun {zs} => by
    induction zs with
    | nil => intro _; rfl
    | cons z zs ih =>
      intro h
      rw [show sortT (z :: zs) l = l.filter (fun e => decide (e.th = z)) ++ sortT zs l from rfl, List.filter_append, ih fun hm => h (List.mem_cons_of_mem _ hm), none fun e => h (by rw [e]; exact List.mem_cons_self ..)]
      rfl
  induction xs with
  | nil => cases hy
  | cons x xs ih =>
    obtain ⟨hx, hn⟩ := List.nodup_cons.1 hn
    rw [show sortT (x :: xs) l = l.filter (fun e => decide (e.th = x)) ++ sortT xs l from rfl, List.filter_append]
    by_cases he : x = y
    · subst he
      rw [no hx, List.filter_filter, List.append_nil]
      congr 1
      funext e
      simp
    · rw [none he, List.nil_append]
      refine ih hn ?_
      rcases List.mem_cons.1 hy with h | h
      · exact absurd h.symm he
      · exact h
def T4 : List Int := [0, 1, 2, 3]
/-- THE LAW: a row whose events of unlike threads do not depend on one another, sorted by threads, does the same. -/
theorem rpl_sort {s : St} (hs : OkH s) {row : List Int} (h0 : (rpl s row).1 = 0) (hF : Free (rpl s row).2.1) :
    rpl s (T4.flatMap fun x => row.filter fun t => decide (t = x)) = (0, sortT T4 (rpl s row).2.1, (rpl s row).2.2) := by
  obtain ⟨h1, h2⟩ := rpl_evs row s h0
  have h3 := evs_sort T4 _ (by decide) hs hF h1
  have h4 := evs_th _ hs.ok h1
  have h5 : (rpl s row).2.1.filter (fun e => !decide (e.th ∈ T4)) = [] := by
    refine List.filter_eq_nil_iff.2 fun e he => ?_
    have := h4 e he
    have : e.th = 0 ∨ e.th = 1 ∨ e.th = 2 ∨ e.th = 3 := by omega
    unfold T4
    simp [this]
  rw [h5, List.append_nil] at h3
  have h6 := evs_rpl _ _ _ h3
  rw [sort_map, h2] at h6
  exact h6
end Go.Proofs.Ytealonjmkcfneaa
