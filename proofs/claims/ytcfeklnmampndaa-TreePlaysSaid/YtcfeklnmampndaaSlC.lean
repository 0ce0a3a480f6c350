/-
  Plain laws of sets.
-/
import Derived.Test.YtcfeklnmampndaaSlB
set_option linter.unusedSimpArgs false
set_option linter.unusedVariables false
namespace Go.Proofs.Ytcfeklnmampndaa
open Go Go.Sn Go.RowKit

theorem has_fin : ∀ (k : Fin 8) (n : Fin 256), hasE (BitVec.ofFin n) (k.val : Int) = (BitVec.ofFin n : BitVec 8).getLsbD k.val := by decide +kernel
theorem has_bit (s : BitVec 8) {k : Nat} (h : k < 8) : hasE s (k : Int) = s.getLsbD k := has_fin ⟨k, h⟩ s.toFin
theorem has_out (s : BitVec 8) {t : Int} (h : ¬ (0 ≤ t ∧ t < 8)) : hasE s t = false := by
  unfold hasE bitE
  rw [if_neg h]
  simp
theorem nat_of {t : Int} (h : 0 ≤ t ∧ t < 8) : ∃ k : Nat, k < 8 ∧ t = (k : Int) := ⟨t.toNat, by omega, by omega⟩
theorem set_ext {s t : BitVec 8} (h : ∀ k : Nat, k < 8 → hasE s (k : Int) = hasE t (k : Int)) : s = t :=
  BitVec.eq_of_getLsbD_eq fun i hi => by rw [← has_bit s hi, ← has_bit t hi, h i hi]
theorem has_or (s t : BitVec 8) (x : Int) : hasE (s ||| t) x = (hasE s x || hasE t x) := by
  by_cases h : 0 ≤ x ∧ x < 8
  · obtain ⟨k, hk, rfl⟩ := nat_of h
    rw [has_bit _ hk, has_bit _ hk, has_bit _ hk, BitVec.getLsbD_or]
  · rw [has_out _ h, has_out _ h, has_out _ h]; rfl
theorem has_not (s t : BitVec 8) (x : Int) : hasE (s &&& ~~~ t) x = (hasE s x && !hasE t x) := by
  by_cases h : 0 ≤ x ∧ x < 8
  · obtain ⟨k, hk, rfl⟩ := nat_of h
    rw [has_bit _ hk, has_bit _ hk, has_bit _ hk, BitVec.getLsbD_and, BitVec.getLsbD_not]
    simp [hk]
  · rw [has_out _ h, has_out _ h, has_out _ h]; rfl
theorem has_and (s t : BitVec 8) (x : Int) : hasE (s &&& t) x = (hasE s x && hasE t x) := by
  by_cases h : 0 ≤ x ∧ x < 8
  · obtain ⟨k, hk, rfl⟩ := nat_of h
    rw [has_bit _ hk, has_bit _ hk, has_bit _ hk, BitVec.getLsbD_and]
  · rw [has_out _ h, has_out _ h, has_out _ h]; rfl
theorem has_0 (x : Int) : hasE 0#8 x = false := by
  unfold hasE
  simp
theorem one_fin : ∀ (u k : Fin 8), hasE (bitE (u.val : Int)) (k.val : Int) = decide (u = k) := by decide +kernel
theorem has_one (u : Int) {k : Nat} (hk : k < 8) : hasE (bitE u) (k : Int) = decide (u = (k : Int)) := by
  by_cases h : 0 ≤ u ∧ u < 8
  · obtain ⟨j, hj, rfl⟩ := nat_of h
    have := one_fin ⟨j, hj⟩ ⟨k, hk⟩
    simp only [Fin.mk.injEq] at this
    rw [this]
    congr 1
    exact propext Int.natCast_inj.symm
  · have : bitE u = 0#8 := if_neg h
    rw [this, has_0, decide_eq_false]
    omega
theorem mem_allB (s : BitVec 8) (x : Int) : x ∈ allB s 8 ↔ hasE s x = true := by
  unfold allB
  constructor
  · intro h
    obtain ⟨k, hk, rfl⟩ := List.mem_map.1 h
    exact (List.mem_filter.1 hk).2
  · intro h
    by_cases hx : 0 ≤ x ∧ x < 8
    · obtain ⟨k, hk, rfl⟩ := nat_of hx
      exact List.mem_map.2 ⟨k, List.mem_filter.2 ⟨List.mem_range.2 hk, h⟩, rfl⟩
    · rw [has_out _ hx] at h; cases h
theorem in_allB (s : BitVec 8) (x : Int) : decide (x ∈ allB s 8) = hasE s x := by
  rw [Bool.eq_iff_iff, decide_eq_true_eq]
  exact mem_allB s x
theorem has_fold (f : Int → Bool) : ∀ (l : List Int) (c : BitVec 8) {k : Nat}, k < 8 → hasE (l.foldl (fun c u => if f u then c ||| bitE u else c) c) (k : Int) = (hasE c k || (decide ((k : Int) ∈ l) && f k))
  | [], c, k, hk => by simp
  | u :: l, c, k, hk => by
    rw [List.foldl_cons, has_fold f l _ hk]
    by_cases hf : f u = true
    · rw [if_pos hf, has_or, has_one u hk]
      by_cases e : u = (k : Int)
      · subst e
        simp [hf]
      · have e2 : ¬ (k : Int) = u := fun h => e h.symm
        simp [e, e2]
    · rw [if_neg hf]
      by_cases e : u = (k : Int)
      · subst e
        rw [Bool.not_eq_true] at hf
        simp [hf]
      · have e2 : ¬ (k : Int) = u := fun h => e h.symm
        simp [e2]
theorem has_of (l : List Int) {k : Nat} (hk : k < 8) : hasE (ofB l) (k : Int) = decide ((k : Int) ∈ l) := by
  have h := has_fold (fun _ => true) l 0#8 hk
  simp only [if_true, has_0, Bool.false_or, Bool.and_true] at h
  exact h
theorem of_all (s : BitVec 8) : ofB (allB s 8) = s := set_ext fun k hk => by rw [has_of _ hk, in_allB]
theorem allB_congr {s t : BitVec 8} (h : s = t) : allB s 8 = allB t 8 := by rw [h]
theorem len_le (s t : BitVec 8) : lenB (s ||| t) ≤ lenB s + lenB t := by
  unfold lenB allB
  rw [List.length_map, List.length_map, List.length_map]
  have : ∀ l : List Nat, (l.filter fun j : Nat => hasE (s ||| t) (j : Int)).length ≤ (l.filter fun j : Nat => hasE s (j : Int)).length + (l.filter fun j : Nat => hasE t (j : Int)).length := fun l => by
    induction l with
    | nil => simp
    | cons a l ih =>
      simp only [List.filter_cons, has_or]
      cases hasE s (a : Int) <;> cases hasE t (a : Int) <;> simp [← has_or] <;> omega
  exact this _
theorem set_ext0 {s t : BitVec 8} (h : ∀ x : Int, hasE s x = hasE t x) : s = t := set_ext fun k _ => h k
/-- A set's own laws. -/
theorem with_with (s b : BitVec 8) : s ||| b ||| b = s ||| b := set_ext0 fun x => by simp only [has_or]; cases hasE s x <;> cases hasE b x <;> rfl
theorem wo_wo (s b : BitVec 8) : s &&& ~~~ b &&& ~~~ b = s &&& ~~~ b := set_ext0 fun x => by simp only [has_not]; cases hasE s x <;> cases hasE b x <;> rfl
theorem with_wo (s b : BitVec 8) : (s ||| b) &&& ~~~ b = s &&& ~~~ b := set_ext0 fun x => by simp only [has_not, has_or]; cases hasE s x <;> cases hasE b x <;> rfl
theorem or_comm8 (s b : BitVec 8) : s ||| b = b ||| s := set_ext0 fun x => by simp only [has_or]; cases hasE s x <;> cases hasE b x <;> rfl
theorem or_self8 (s : BitVec 8) : s ||| s = s := set_ext0 fun x => by simp only [has_or]; cases hasE s x <;> rfl
end Go.Proofs.Ytcfeklnmampndaa
