/-
  The law of neighbours that race, and of rows without races.
-/
import Derived.Test.YtobdagjdhgjplaaRcJ
set_option linter.unusedSimpArgs false
set_option linter.unusedVariables false
namespace Go.Proofs.Ytobdagjdhgjplaa
open Go Go.Sn Go.RowKit

/-- In a free row what happens before is of the same thread. -/
theorem free_hb {l : List Ev} (h : AllR l) (hF : Free l) : ∀ (m : Nat), m < l.length → ∀ i, i ≤ m → (cn l (i + 1) (thN l i) : Int) ≤ ck l m (thN l i) → thN l i = thN l m := by
  intro m
  induction m using Nat.strongRecOn with
  | _ m ih =>
    intro hm i hi hk
    rcases Nat.lt_or_ge i m with hlt | hge
    · obtain ⟨k, h1, h2, h3, h4⟩ := (known_iff h hm hlt).1 hk
      have e1 := ih k h1 (by omega) i h3 h4
      rw [e1]
      have hp := List.pairwise_iff_getElem.1 hF k m (by omega) hm h1
      have g1 : l.getD k default = l[k] := by simp [List.getD_eq_getElem?_getD, List.getElem?_eq_getElem (show k < l.length by omega)]
      have g2 : l.getD m default = l[m] := by simp [List.getD_eq_getElem?_getD, List.getElem?_eq_getElem hm]
      rw [← g1, ← g2] at hp
      by_cases e : (l.getD k default).th = (l.getD m default).th
      · unfold thN; rw [e]
      · rw [hp e] at h2; cases h2
    · obtain rfl : i = m := by omega
      rfl
theorem free_of_none {l : List Ev} (h : AllR l) (hn : revP l l.length = []) : Free l := by
  have key : ∀ k, k ≤ l.length → Free (l.take k) := by
    intro k
    induction k with
    | zero => intro _; simp [Free]
    | succ k ih =>
      intro hk
      have hFk := ih (by omega)
      refine free_step (by omega) hFk fun i hi hne => ?_
      rw [depE_comm]
      have hM := allR_take h k
      have hlen : (l.take k).length = k := by rw [List.length_take]; omega
      cases hd : depE (l.getD i default) (l.getD k default) with
      | false => rfl
      | true =>
        exfalso
        have hr : racP (l.take k) (l.getD k default) = [] := by
          have : ∀ j, j < l.length → racP (l.take j) (l.getD j default) = [] := fun j hj => (List.flatMap_eq_nil_iff.1 hn) j (List.mem_range.2 hj)
          exact this k (by omega)
        have hc : cndP (l.take k) (l.getD k default) i = false := by
          unfold racP rcK wiP at hr
          rw [List.map_eq_nil_iff, List.filter_eq_nil_iff] at hr
          have := hr i (List.mem_range.2 (by omega))
          simpa using this
        have gi : (l.take k).getD i default = l.getD i default := getD_take' l hi
        have hne' : ((l.take k).getD i default).th ≠ (l.getD k default).th := by rw [gi]; exact fun e => hne e.symm
        unfold cndP at hc
        rw [known_eq hM _ (by omega) hne', gi, hd, decide_eq_false (by rw [← gi]; exact hne')] at hc
        have hkn : knownD (l.take k) (l.getD k default).th i = true := by simpa using hc
        unfold knownD at hkn
        rcases last_cases (l.take k) (l.getD k default).th (l.take k).length (Nat.le_refl _) with ⟨h1, _, _⟩ | ⟨m, h1, h2, h3, _, _⟩
        · rw [h1] at hkn
          simp at hkn
        · rw [h2] at hkn
          simp only [Bool.and_eq_true, decide_eq_true_eq, Int.toNat_natCast] at hkn
          obtain ⟨⟨_, him⟩, ho⟩ := hkn
          rw [ord_hb hM m h1 i (by omega)] at ho
          unfold hbf at ho
          simp only [Bool.and_eq_true, decide_eq_true_eq] at ho
          have e1 := free_hb hM hFk m h1 i ho.1 ho.2
          have a1 := (thN_lt hM (i := i) (by omega)).2
          have a2 := (thN_lt hM h1).2
          rw [e1, a2, h3] at a1
          exact hne' a1.symm
  have := key l.length (Nat.le_refl _)
  rwa [List.take_length] at this

/-- Rows that come from one another by neighbours that do not depend. -/
inductive Sw : List Ev → List Ev → Prop
  | refl (a : List Ev) : Sw a a
  | swap (u v : List Ev) (x y : Ev) (h : depE x y = false) : Sw (u ++ x :: y :: v) (u ++ y :: x :: v)
  | trans {a b c : List Ev} (h : Sw a b) (k : Sw b c) : Sw a c
theorem Sw.iso {a b : List Ev} (h : Sw a b) : Iso a b := by
  induction h with
  | refl a => exact Iso.refl a
  | swap u v x y h => exact iso_swap u v h
  | trans _ _ i j => exact i.trans j
theorem sw_move {x : Ev} : ∀ (F : List Ev) (u G : List Ev), (∀ f ∈ F, depE x f = false) → Sw (u ++ x :: (F ++ G)) (u ++ (F ++ x :: G))
  | [], u, G, _ => .refl _
  | f :: F, u, G, h => by
    have h1 := Sw.swap u (F ++ G) x f (h f (List.mem_cons_self ..))
    have h2 := sw_move F (u ++ [f]) G fun g hg => h g (List.mem_cons_of_mem _ hg)
    simp only [List.append_assoc, List.cons_append, List.nil_append] at h2
    exact .trans h1 h2
theorem sw_first (t : Int) : ∀ (l u : List Ev), Free l → Sw (u ++ l) (u ++ (l.filter (fun e => decide (e.th = t)) ++ l.filter (fun e => !decide (e.th = t))))
  | [], u, _ => .refl _
  | e :: l, u, hF => by
    obtain ⟨hf1, hf2⟩ := List.pairwise_cons.1 hF
    have ih := sw_first t l (u ++ [e]) hf2
    simp only [List.append_assoc, List.cons_append, List.nil_append] at ih
    by_cases hx : e.th = t
    · rw [List.filter_cons_of_pos (by simp [hx]), List.filter_cons_of_neg (by simp [hx])]
      exact ih
    · rw [List.filter_cons_of_neg (by simp [hx]), List.filter_cons_of_pos (by simp [hx])]
      refine .trans ih (sw_move _ u _ fun f hf => ?_)
      obtain ⟨hm, hft⟩ := List.mem_filter.1 hf
      simp only [decide_eq_true_eq] at hft
      exact hf1 f hm fun e2 => hx (by rw [e2, hft])
theorem sw_sort : ∀ (xs : List Int) (l u : List Ev), xs.Nodup → Free l → Sw (u ++ l) (u ++ (sortT xs l ++ l.filter (fun e => !decide (e.th ∈ xs))))
  | [], l, u, _, _ => by
    have : l.filter (fun e => !decide (e.th ∈ ([] : List Int))) = l := List.filter_eq_self.2 fun a _ => by simp
    rw [this]
    exact .refl _
  | x :: xs, l, u, hn, hF => by
    obtain ⟨hx, hn⟩ := List.nodup_cons.1 hn
    have h1 := sw_first x l u hF
    have h2 := sw_sort xs (l.filter fun e => !decide (e.th = x)) (u ++ l.filter fun e => decide (e.th = x)) hn (List.Pairwise.sublist List.filter_sublist hF)
    have e1 : sortT xs (l.filter fun e => !decide (e.th = x)) = sortT xs l := sort_congr xs fun y hy => by
      rw [List.filter_filter]
      congr 1
      funext e
      by_cases hey : e.th = y
      · have : y ≠ x := fun e => hx (by rw [← e]; exact hy)
        simp [hey, this]
      · simp [hey]
    have e2 : (l.filter fun e => !decide (e.th = x)).filter (fun e => !decide (e.th ∈ xs)) = l.filter fun e => !decide (e.th ∈ x :: xs) := by
      rw [List.filter_filter]
      congr 1
      funext e
      by_cases h1 : e.th = x <;> by_cases h2 : e.th ∈ xs <;> simp [h1, h2]
    rw [e1, e2] at h2
    rw [show sortT (x :: xs) l = l.filter (fun e => decide (e.th = x)) ++ sortT xs l from rfl]
    simp only [List.append_assoc] at h1 h2 ⊢
    exact .trans h1 h2
/-- A row without races, each thread's events one behind the other. -/
theorem norace_law {l : List Ev} (h : AllR l) (hn : revE l = []) {xs : List Int} (hx : xs.Nodup) (hall : ∀ t : Int, 0 ≤ t → t < 4 → t ∈ xs) : AllR (sortT xs l) ∧ sameE (sortT xs l) l = true := by
  have hE : revE l = revP l l.length := by unfold revE; rw [if_pos h]
  rw [hE] at hn
  have hF := free_of_none h hn
  have h1 := sw_sort xs l [] hx hF
  have h2 : l.filter (fun e => !decide (e.th ∈ xs)) = [] := List.filter_eq_nil_iff.2 fun e he => by
    have hr := right_bounds (List.all_eq_true.1 h e he)
    have := hall e.th hr.1 (by omega)
    simp [this]
  rw [h2, List.append_nil, List.nil_append, List.nil_append] at h1
  have hA : AllR (sortT xs l) := List.all_eq_true.2 fun e he => by
    unfold sortT at he
    obtain ⟨t, _, ht⟩ := List.mem_flatMap.1 he
    exact List.all_eq_true.1 h e (List.mem_filter.1 ht).1
  exact ⟨hA, (sameE_iff hA h).2 h1.iso.symm⟩
/-! ### neighbours -/
def swp (l : List Ev) (i : Nat) : List Ev := (l.set i (l.getD (i + 1) default)).set (i + 1) (l.getD i default)
theorem split2 {l : List Ev} {i : Nat} (hi : i + 1 < l.length) : l = l.take i ++ l.getD i default :: l.getD (i + 1) default :: l.drop (i + 2) := by
  have h1 : l = l.take i ++ l.drop i := (List.take_append_drop i l).symm
  have g1 : l.getD i default = l[i] := by simp [List.getD_eq_getElem?_getD, List.getElem?_eq_getElem (show i < l.length by omega)]
  have g2 : l.getD (i + 1) default = l[i + 1] := by simp [List.getD_eq_getElem?_getD, List.getElem?_eq_getElem hi]
  rw [g1, g2]
  conv => lhs; rw [h1, List.drop_eq_getElem_cons (show i < l.length by omega), List.drop_eq_getElem_cons hi]
theorem swp_split {l : List Ev} {i : Nat} (hi : i + 1 < l.length) : swp l i = l.take i ++ l.getD (i + 1) default :: l.getD i default :: l.drop (i + 2) := by
  unfold swp
  have hs := split2 hi
  generalize l.getD i default = x at *
  generalize l.getD (i + 1) default = y at *
  have hlt : (l.take i).length = i := by rw [List.length_take]; omega
  conv => lhs; rw [hs]
  rw [List.set_append_right _ _ (by omega), hlt, Nat.sub_self, List.set_cons_zero, List.set_append_right _ _ (by omega), hlt, show i + 1 - i = 1 by omega]
  rfl
def fnd (l : List Ev) (i : Nat) : Bool := !decide ((l.getD i default).th = (l.getD (i + 1) default).th) && depE (l.getD i default) (l.getD (i + 1) default)
theorem fnd_eq {l : List Ev} (h : AllR l) {i : Nat} (hi : i + 1 < l.length) : cndP (l.take (i + 1)) (l.getD (i + 1) default) i = fnd l i := by
  have hM := allR_take h (i + 1)
  have hlen : (l.take (i + 1)).length = i + 1 := by rw [List.length_take]; omega
  have gi : (l.take (i + 1)).getD i default = l.getD i default := getD_take' l (by omega)
  unfold cndP fnd
  rw [gi]
  by_cases hne : (l.getD i default).th = (l.getD (i + 1) default).th
  · rw [decide_eq_true hne]; rfl
  · rw [known_eq hM _ (by omega) (by rw [gi]; exact hne)]
    have hk : knownD (l.take (i + 1)) (l.getD (i + 1) default).th i = false := by
      unfold knownD
      rcases last_cases (l.take (i + 1)) (l.getD (i + 1) default).th (l.take (i + 1)).length (Nat.le_refl _) with ⟨h1, _, _⟩ | ⟨m, h1, h2, h3, _, _⟩
      · rw [h1]; rfl
      · have him : ¬ i ≤ m := fun e => by
          obtain rfl : i = m := by omega
          rw [gi] at h3
          exact hne h3
        rw [h2, decide_eq_false (show ¬ (i : Int) ≤ (m : Int) by omega)]
        simp
    rw [hk]
    simp
theorem found_law {l : List Ev} (h : AllR l) {i : Nat} (hi : i + 1 < l.length) :
    (revE (l.take (i + 2))).any (fun r => decide (r.pl = (i : Int)) && decide (r.th = (l.getD (i + 1) default).th)) = fnd l i := by
  have hM := allR_take h (i + 2)
  have hlen : (l.take (i + 2)).length = i + 1 + 1 := by rw [List.length_take]; omega
  have hE : revE (l.take (i + 2)) = revP l (i + 1) ++ racP (l.take (i + 1)) (l.getD (i + 1) default) := by
    unfold revE
    rw [if_pos hM, hlen, revP_take l (Nat.le_refl _), revP_succ]
  rw [hE, List.any_append, ← fnd_eq h hi]
  have h1 : (revP l (i + 1)).any (fun r => decide (r.pl = (i : Int)) && decide (r.th = (l.getD (i + 1) default).th)) = false := by
    rw [List.any_eq_false]
    intro r hr
    obtain ⟨a, b, ha, hb, rfl, _⟩ := revP_mem (by omega) hr
    simp only [Bool.and_eq_true, decide_eq_true_eq, not_and]
    intro e
    exfalso
    omega
  rw [h1, Bool.false_or]
  have hlen1 : (l.take (i + 1)).length = i + 1 := by rw [List.length_take]; omega
  unfold racP rcK wiP
  rw [hlen1, Bool.eq_iff_iff, List.any_eq_true]
  constructor
  · rintro ⟨r, hr, hp⟩
    obtain ⟨j, hj, rfl⟩ := List.mem_map.1 hr
    simp only [Bool.and_eq_true, decide_eq_true_eq] at hp
    obtain rfl : j = i := by omega
    exact (List.mem_filter.1 hj).2
  · intro hc
    exact ⟨⟨(i : Int), (l.getD (i + 1) default).th⟩, List.mem_map.2 ⟨i, List.mem_filter.2 ⟨List.mem_range.2 (by omega), hc⟩, rfl⟩, by simp⟩
theorem swaps_law {l : List Ev} (h : AllR l) {i : Nat} (hi : i + 1 < l.length) : AllR (swp l i) ∧ ((l.getD i default).th ≠ (l.getD (i + 1) default).th → sameE (swp l i) l = !fnd l i) := by
  have hs := split2 hi
  have hw := swp_split hi
  have hA : AllR (swp l i) := by
    rw [hw]
    rw [hs] at h
    unfold AllR at *
    simp only [List.all_append, List.all_cons, Bool.and_eq_true] at h ⊢
    exact ⟨h.1, h.2.2.1, h.2.1, h.2.2.2⟩
  refine ⟨hA, fun hne => ?_⟩
  unfold fnd
  rw [decide_eq_false hne, Bool.not_false, Bool.true_and]
  rw [Bool.eq_iff_iff, sameE_iff hA h]
  generalize hx : l.getD i default = x at *
  generalize hy : l.getD (i + 1) default = y at *
  rw [hw]
  conv => lhs; arg 2; rw [hs]
  cases hd : depE x y with
  | true =>
    simp only [Bool.not_true, Bool.false_eq_true, iff_false]
    exact not_iso_swap (by rw [← hs]; exact h) hne hd
  | false =>
    simp only [Bool.not_false, iff_true]
    exact (iso_swap _ _ hd).symm
end Go.Proofs.Ytobdagjdhgjplaa
