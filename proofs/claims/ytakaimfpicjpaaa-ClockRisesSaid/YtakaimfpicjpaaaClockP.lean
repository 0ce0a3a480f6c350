/-
  Plain laws of clocks: what a clock counts, and the order that it tells.
-/
import Derived.Test.YtakaimfpicjpaaaClockG
set_option linter.unusedSimpArgs false
set_option linter.unusedVariables false
namespace Go.Proofs.Ytakaimfpicjpaaa
open Go Go.Sn

/-- The clock of the `i`-th, at thread `t`. -/
def ck (l : List Ev) (i t : Nat) : Int := ((clkU l l.length).getD i []).getD t 0
/-- How many of the first `i` are of thread `t`. -/
def cn (l : List Ev) (i t : Nat) : Nat := cntT (t : Int) (l.take i)
def thN (l : List Ev) (i : Nat) : Nat := (l.getD i default).th.toNat
abbrev AllR (l : List Ev) : Prop := l.all rightR = true

theorem thN_lt {l : List Ev} (h : AllR l) {i : Nat} (hi : i < l.length) : thN l i < 4 ∧ ((thN l i : Nat) : Int) = (l.getD i default).th := by
  have := right_bounds (rightR_getD h hi)
  unfold thN
  omega

theorem cn_succ {l : List Ev} (h : AllR l) {i : Nat} (hi : i < l.length) (t : Nat) : cn l (i + 1) t = cn l i t + if thN l i = t then 1 else 0 := by
  unfold cn
  rw [cntT_succ _ hi]
  congr 1
  have := (thN_lt h hi).2
  by_cases e : thN l i = t
  · rw [if_pos e, if_pos (by omega)]
  · rw [if_neg e, if_neg (by omega)]
theorem cn_zero (l : List Ev) (t : Nat) : cn l 0 t = 0 := by simp [cn, cntT]
theorem cn_mono {l : List Ev} (h : AllR l) (t : Nat) {i k : Nat} (hik : i ≤ k) (hk : k ≤ l.length) : cn l i t ≤ cn l k t := by
  induction k with
  | zero => obtain rfl : i = 0 := by omega
            exact Nat.le_refl _
  | succ k ih =>
    rcases Nat.lt_or_ge i (k + 1) with hlt | hge
    · have := ih (by omega) (by omega)
      rw [cn_succ h (by omega)]
      omega
    · obtain rfl : i = k + 1 := by omega
      exact Nat.le_refl _
/-- The last one of a thread ahead of a place. -/
theorem cn_last {l : List Ev} (h : AllR l) (t : Nat) : ∀ {i : Nat}, i ≤ l.length → 0 < cn l i t → ∃ j, j < i ∧ thN l j = t ∧ cn l (j + 1) t = cn l i t
  | 0, _, hp => by rw [cn_zero] at hp; omega
  | i + 1, hi, hp => by
    by_cases e : thN l i = t
    · exact ⟨i, by omega, e, rfl⟩
    · rw [cn_succ h (by omega), if_neg e] at hp ⊢
      obtain ⟨j, h1, h2, h3⟩ := cn_last h t (i := i) (by omega) hp
      exact ⟨j, by omega, h2, h3⟩
theorem le_of_cn {l : List Ev} (h : AllR l) {j i t : Nat} (hj : j < l.length) (hi : i < l.length) (ht : thN l j = t) (hc : cn l (j + 1) t ≤ cn l (i + 1) t) : j ≤ i := by
  rcases Nat.lt_or_ge i j with hlt | hge
  · have h1 := cn_mono h t (i := i + 1) (k := j) (by omega) (by omega)
    rw [cn_succ h hj, if_pos ht] at hc
    omega
  · exact hge
theorem cn_pos {l : List Ev} (h : AllR l) {j : Nat} (hj : j < l.length) : 0 < cn l (j + 1) (thN l j) := by rw [cn_succ h hj, if_pos rfl]; omega
/-- Each number of a thread is an event's. -/
theorem cn_ex {l : List Ev} (h : AllR l) (t n : Nat) (hn : 0 < n) : ∀ {i : Nat}, i ≤ l.length → n ≤ cn l i t → ∃ j, j < i ∧ thN l j = t ∧ cn l (j + 1) t = n
  | 0, _, hp => by rw [cn_zero] at hp; omega
  | i + 1, hi, hp => by
    by_cases e : n ≤ cn l i t
    · obtain ⟨j, h1, h2, h3⟩ := cn_ex h t n hn (i := i) (by omega) e
      exact ⟨j, by omega, h2, h3⟩
    · have hs := cn_succ h (i := i) (by omega) t
      by_cases e1 : thN l i = t
      · rw [if_pos e1] at hs
        exact ⟨i, by omega, e1, by omega⟩
      · rw [if_neg e1] at hs
        omega
theorem cn_inj {l : List Ev} (h : AllR l) {i j : Nat} (hi : i < l.length) (hj : j < l.length) (ht : thN l i = thN l j) (hc : cn l (i + 1) (thN l i) = cn l (j + 1) (thN l j)) : i = j := by
  rw [← ht] at hc
  have h1 := le_of_cn h hi hj rfl (Nat.le_of_eq hc)
  have h2 := le_of_cn h hj hi ht.symm (by omega)
  omega

/-! ### what a clock is made of -/

theorem joinI_getD {c d : List Int} (h : c.length = d.length) (t : Nat) : (joinI c d).getD t 0 = max (c.getD t 0) (d.getD t 0) := by
  unfold joinI
  simp only [List.getD_eq_getElem?_getD, List.getElem?_zipWith]
  by_cases ht : t < c.length
  · simp [List.getElem?_eq_getElem ht, List.getElem?_eq_getElem (show t < d.length by omega)]
  · simp [List.getElem?_eq_none (Nat.not_lt.1 ht), List.getElem?_eq_none (show d.length ≤ t by omega)]

theorem clkU_get (l : List Ev) {k : Nat} : ∀ {m : Nat}, k < m → (clkU l m).getD k [] = bump (l.getD k default).th (jf (clkU l k) l (l.getD k default) k)
  | 0, h => by omega
  | m + 1, h => by
    rw [show clkU l (m + 1) = clkU l m ++ [bump (l.getD m default).th (jf (clkU l m) l (l.getD m default) m)] from rfl]
    rcases Nat.lt_or_ge k m with hlt | hge
    · rw [List.getD_eq_getElem?_getD, List.getElem?_append_left (by rw [clkU_length]; exact hlt), ← List.getD_eq_getElem?_getD]
      exact clkU_get l hlt
    · obtain rfl : k = m := by omega
      rw [List.getD_eq_getElem?_getD, List.getElem?_append_right (by rw [clkU_length]; exact Nat.le_refl _), clkU_length]
      simp
theorem clkU_get' (l : List Ev) {k m m' : Nat} (h : k < m) (h' : k < m') : (clkU l m).getD k [] = (clkU l m').getD k [] := by rw [clkU_get l h, clkU_get l h']

theorem jf_le (l : List Ev) (e : Ev) {k : Nat} (hk : k ≤ l.length) (t : Nat) (n : Int) : ∀ {i : Nat}, i ≤ k →
    (n ≤ (jf (clkU l k) l e i).getD t 0 ↔ n ≤ 0 ∨ ∃ j, j < i ∧ depE (l.getD j default) e = true ∧ n ≤ ck l j t)
  | 0, _ => by
    have : (jf (clkU l k) l e 0).getD t 0 = 0 := by
      unfold jf
      match t with
      | 0 => rfl
      | 1 => rfl
      | 2 => rfl
      | 3 => rfl
      | t + 4 => rfl
    rw [this]
    constructor
    · exact fun h => .inl h
    · rintro (h | ⟨j, h, _⟩)
      · exact h
      · omega
  | i + 1, hi => by
    have ih := jf_le l e hk t n (i := i) (by omega)
    have h4 : (jf (clkU l k) l e i).length = 4 := (OkC.jf (okC_clkU l k) i (by rw [clkU_length]; omega)).1
    have hc4 : ((clkU l k).getD i []).length = 4 := (okC_getD (by omega)).1
    have hck : ((clkU l k).getD i []).getD t 0 = ck l i t := by unfold ck; rw [clkU_get' l (m := k) (m' := l.length) (by omega) (by omega)]
    unfold jf
    split
    · rename_i hd
      rw [joinI_getD (by omega), hck]
      constructor
      · intro h
        rcases Int.le_total ((jf (clkU l k) l e i).getD t 0) (ck l i t) with h1 | h1
        · exact .inr ⟨i, by omega, hd, by omega⟩
        · rcases ih.1 (by omega) with h2 | ⟨j, h2, h3⟩
          · exact .inl h2
          · exact .inr ⟨j, by omega, h3⟩
      · rintro (h | ⟨j, h2, h3, h5⟩)
        · have := ih.2 (.inl h); omega
        · rcases Nat.lt_or_ge j i with h6 | h6
          · have := ih.2 (.inr ⟨j, h6, h3, h5⟩); omega
          · obtain rfl : j = i := by omega
            omega
    · rename_i hd
      rw [ih]
      constructor
      · rintro (h | ⟨j, h2, h3⟩)
        · exact .inl h
        · exact .inr ⟨j, by omega, h3⟩
      · rintro (h | ⟨j, h2, h3, h5⟩)
        · exact .inl h
        · rcases Nat.lt_or_ge j i with h6 | h6
          · exact .inr ⟨j, h6, h3, h5⟩
          · obtain rfl : j = i := by omega
            exact absurd h3 hd

/-- What is known ahead of the `i`-th. -/
def jx (l : List Ev) (i t : Nat) : Int := (jf (clkU l i) l (l.getD i default) i).getD t 0
theorem jx_le (l : List Ev) {i : Nat} (hi : i < l.length) (t : Nat) (n : Int) : n ≤ jx l i t ↔ n ≤ 0 ∨ ∃ j, j < i ∧ depE (l.getD j default) (l.getD i default) = true ∧ n ≤ ck l j t :=
  jf_le l _ (by omega) t n (Nat.le_refl _)
theorem bump_getD {c : List Int} {t : Int} (h : t.toNat < c.length) (j : Nat) : (bump t c).getD j 0 = c.getD j 0 + if t.toNat = j then 1 else 0 := by
  unfold bump
  simp only [List.getD_eq_getElem?_getD, List.getElem?_set]
  split
  · rename_i e
    subst e
    simp [h]
  · simp
theorem ck_eq {l : List Ev} (h : AllR l) {i : Nat} (hi : i < l.length) (t : Nat) : ck l i t = jx l i t + if thN l i = t then 1 else 0 := by
  unfold ck jx
  rw [clkU_get l hi, bump_getD]
  · rfl
  · rw [(OkC.jf (okC_clkU l i) i (by rw [clkU_length]; omega)).1]
    exact (thN_lt h hi).1
theorem ck_nonneg (l : List Ev) {i : Nat} (hi : i < l.length) (t : Nat) : 0 ≤ ck l i t := by
  unfold ck
  have h := okC_getD (l := l) hi
  by_cases ht : t < ((clkU l l.length).getD i []).length
  · have := h.2 (((clkU l l.length).getD i [])[t]) (List.getElem_mem _)
    rw [List.getD_eq_getElem?_getD, List.getElem?_eq_getElem ht]
    exact this.1
  · rw [List.getD_eq_getElem?_getD, List.getElem?_eq_none (Nat.not_lt.1 ht)]
    exact Int.le_refl _
theorem depE_same {a b : Ev} (h : a.th = b.th) : depE a b = true := by simp [depE, h]
theorem dep_th {l : List Ev} (h : AllR l) {i j : Nat} (hi : i < l.length) (hj : j < l.length) (ht : thN l j = thN l i) : depE (l.getD j default) (l.getD i default) = true :=
  depE_same (by rw [← (thN_lt h hi).2, ← (thN_lt h hj).2, ht])

theorem ck_le {l : List Ev} (h : AllR l) : ∀ (i : Nat), i < l.length → ∀ t, ck l i t ≤ (cn l (i + 1) t : Int) := by
  intro i
  induction i using Nat.strongRecOn with
  | _ i ih =>
    intro hi t
    have hj : jx l i t ≤ (cn l i t : Int) := by
      rcases (jx_le l hi t (jx l i t)).1 (Int.le_refl _) with h1 | ⟨j, h1, h2, h3⟩
      · omega
      · have h4 := ih j h1 (by omega) t
        have h5 := cn_mono h t (i := j + 1) (k := i) (by omega) (by omega)
        omega
    rw [ck_eq h hi, cn_succ h hi]
    split <;> omega
theorem jx_cn {l : List Ev} (h : AllR l) {i : Nat} (hi : i < l.length) (t : Nat) : jx l i t ≤ (cn l i t : Int) := by
  rcases (jx_le l hi t (jx l i t)).1 (Int.le_refl _) with h1 | ⟨j, h1, h2, h3⟩
  · omega
  · have h4 := ck_le h j (by omega) t
    have h5 := cn_mono h t (i := j + 1) (k := i) (by omega) (by omega)
    omega
/-- Its own number. -/
theorem ck_own {l : List Ev} (h : AllR l) : ∀ (i : Nat), i < l.length → ck l i (thN l i) = (cn l (i + 1) (thN l i) : Int) := by
  intro i
  induction i using Nat.strongRecOn with
  | _ i ih =>
    intro hi
    have h1 := jx_cn h hi (thN l i)
    have h2 : (cn l i (thN l i) : Int) ≤ jx l i (thN l i) := by
      rw [jx_le l hi]
      by_cases hp : 0 < cn l i (thN l i)
      · obtain ⟨j, h3, h4, h5⟩ := cn_last h (thN l i) (i := i) (by omega) hp
        refine .inr ⟨j, h3, dep_th h hi (by omega) h4, ?_⟩
        have := ih j h3 (by omega)
        rw [h4, h5] at this
        omega
      · exact .inl (by omega)
    rw [ck_eq h hi, cn_succ h hi, if_pos rfl, if_pos rfl]
    omega
/-- What it depends on, it knows. -/
theorem ck_dep {l : List Ev} (h : AllR l) {i j : Nat} (hi : i < l.length) (hj : j < i) (hd : depE (l.getD j default) (l.getD i default) = true) (t : Nat) : ck l j t ≤ ck l i t := by
  have := (jx_le l hi t (ck l j t)).2 (.inr ⟨j, hj, hd, Int.le_refl _⟩)
  rw [ck_eq h hi]
  split <;> omega

/-- Known is what it is, or what one is known by that it depends on. -/
theorem known_iff {l : List Ev} (h : AllR l) {i j : Nat} (hi : i < l.length) (hj : j < i) :
    (cn l (j + 1) (thN l j) : Int) ≤ ck l i (thN l j) ↔ ∃ k, k < i ∧ depE (l.getD k default) (l.getD i default) = true ∧ j ≤ k ∧ (cn l (j + 1) (thN l j) : Int) ≤ ck l k (thN l j) := by
  have hjl : j < l.length := by omega
  constructor
  · intro hk
    by_cases ht : thN l j = thN l i
    · exact ⟨j, hj, dep_th h hi hjl ht, Nat.le_refl _, by rw [ck_own h j hjl]; exact Int.le_refl _⟩
    · rw [ck_eq h hi, if_neg (fun e => ht e.symm)] at hk
      have hp := cn_pos h hjl
      rcases (jx_le l hi _ _).1 (show ((cn l (j + 1) (thN l j) : Nat) : Int) ≤ jx l i (thN l j) by omega) with h1 | ⟨k, h1, h2, h3⟩
      · omega
      · refine ⟨k, h1, h2, ?_, h3⟩
        have := ck_le h k (by omega) (thN l j)
        exact le_of_cn h hjl (by omega) rfl (by omega)
  · rintro ⟨k, h1, h2, h3, h4⟩
    have := ck_dep h hi h1 h2 (thN l j)
    omega

/-- What is known by one that is known, is known. -/
theorem ck_down {l : List Ev} (h : AllR l) : ∀ (k : Nat), k < l.length → ∀ j, j ≤ k → (cn l (j + 1) (thN l j) : Int) ≤ ck l k (thN l j) → ∀ t, ck l j t ≤ ck l k t := by
  intro k
  induction k using Nat.strongRecOn with
  | _ k ih =>
    intro hk j hj hn t
    rcases Nat.lt_or_ge j k with hlt | hge
    · obtain ⟨i, h1, h2, h3, h4⟩ := (known_iff h hk hlt).1 hn
      have := ih i h1 (by omega) j h3 h4 t
      have := ck_dep h hk h1 h2 t
      omega
    · obtain rfl : j = k := by omega
      exact Int.le_refl _

/-! ### the document's order -/

/-- The `i`-th happens before the `k`-th. -/
def hbf (l : List Ev) (i k : Nat) : Bool := decide (i ≤ k) && decide ((cn l (i + 1) (thN l i) : Int) ≤ ck l k (thN l i))

theorem ordU_get (l : List Ev) {k : Nat} : ∀ {m : Nat}, k < m → (ordU l m).getD k [] = ordI (ordU l k) l k k
  | 0, h => by omega
  | m + 1, h => by
    rw [show ordU l (m + 1) = ordU l m ++ [ordI (ordU l m) l m m] from rfl]
    rcases Nat.lt_or_ge k m with hlt | hge
    · rw [List.getD_eq_getElem?_getD, List.getElem?_append_left (by rw [ordU_length]; exact hlt), ← List.getD_eq_getElem?_getD]
      exact ordU_get l hlt
    · obtain rfl : k = m := by omega
      rw [List.getD_eq_getElem?_getD, List.getElem?_append_right (by rw [ordU_length]; exact Nat.le_refl _), ordU_length]
      simp

theorem ordI_get (l : List Ev) {k : Nat} (hk : k < l.length) (out : List (List Bool)) {j : Nat} (hj : j < l.length) : ∀ {n : Nat}, n ≤ k →
    ((ordI out l k n).getD j false = true ↔ j = k ∨ ∃ i, k - n ≤ i ∧ i < k ∧ depE (l.getD i default) (l.getD k default) = true ∧ j ≤ i ∧ (out.getD i []).getD j false = true)
  | 0, _ => by
    unfold ordI
    simp only [List.getD_eq_getElem?_getD, List.getElem?_set, List.length_replicate]
    by_cases e : k = j
    · subst e; simp [hj]
    · simp only [e, if_false, List.getElem?_replicate, hj, if_true, Option.getD_some]
      constructor
      · intro h; cases h
      · rintro (h | ⟨i, h1, h2, _⟩)
        · exact absurd h.symm e
        · omega
  | n + 1, hn => by
    have ih := ordI_get l hk out hj (n := n) (by omega)
    unfold ordI
    rw [← dep_eq]
    split
    · rename_i hd
      rw [orM_getD _ _ _ _ (by rw [ordI_length]; exact hj), Bool.or_eq_true, ih, Bool.and_eq_true, decide_eq_true_eq]
      constructor
      · rintro ((h | ⟨i, h1, h2, h3⟩) | ⟨h1, h2⟩)
        · exact .inl h
        · exact .inr ⟨i, by omega, h2, h3⟩
        · exact .inr ⟨k - 1 - n, by omega, by omega, hd, by omega, h2⟩
      · rintro (h | ⟨i, h1, h2, h3, h4, h5⟩)
        · exact .inl (.inl h)
        · by_cases e : i = k - 1 - n
          · subst e
            exact .inr ⟨by omega, h5⟩
          · exact .inl (.inr ⟨i, by omega, h2, h3, h4, h5⟩)
    · rename_i hd
      rw [ih]
      constructor
      · rintro (h | ⟨i, h1, h2, h3⟩)
        · exact .inl h
        · exact .inr ⟨i, by omega, h2, h3⟩
      · rintro (h | ⟨i, h1, h2, h3, h4, h5⟩)
        · exact .inl h
        · by_cases e : i = k - 1 - n
          · subst e
            exact absurd h3 hd
          · exact .inr ⟨i, by omega, h2, h3, h4, h5⟩

/-- The document's order is what the clocks tell. -/
theorem ord_hb {l : List Ev} (h : AllR l) : ∀ (k : Nat), k < l.length → ∀ j, j < l.length → ordB l k j = hbf l j k := by
  intro k
  induction k using Nat.strongRecOn with
  | _ k ih =>
    intro hk j hj
    rw [Bool.eq_iff_iff]
    unfold ordB
    rw [ordU_get l hk, ordI_get l hk _ hj (Nat.le_refl _)]
    have hb1 : hbf l j k = true ↔ j ≤ k ∧ (cn l (j + 1) (thN l j) : Int) ≤ ck l k (thN l j) := by simp [hbf]
    rw [hb1]
    have hrow : ∀ i, i < k → (ordU l k).getD i [] = (ordU l l.length).getD i [] := fun i hi => by rw [ordU_get l hi, ordU_get l (show i < l.length by omega)]
    constructor
    · rintro (rfl | ⟨i, h1, h2, h3, h4, h5⟩)
      · exact ⟨Nat.le_refl _, by rw [ck_own h j hk]; exact Int.le_refl _⟩
      · rw [hrow i h2] at h5
        have h6 : ordB l i j = true := h5
        rw [ih i h2 (by omega) j hj] at h6
        have h7 : j ≤ i ∧ (cn l (j + 1) (thN l j) : Int) ≤ ck l i (thN l j) := by simpa [hbf] using h6
        have := ck_dep h hk h2 h3 (thN l j)
        exact ⟨by omega, by omega⟩
    · rintro ⟨h1, h2⟩
      rcases Nat.lt_or_ge j k with hlt | hge
      · obtain ⟨i, h3, h4, h5, h6⟩ := (known_iff h hk hlt).1 h2
        refine .inr ⟨i, by omega, h3, h4, h5, ?_⟩
        rw [hrow i h3]
        show ordB l i j = true
        rw [ih i h3 (by omega) j hj]
        simp [hbf, h5, h6]
      · exact .inl (by omega)
theorem numN_eq {l : List Ev} (h : AllR l) {i : Nat} (hi : i < l.length) : numN l (i : Int) = (cn l (i + 1) (thN l i) : Int) := by
  unfold numN
  rw [if_neg (by simp only [Bool.or_eq_true, decide_eq_true_eq, Bool.not_eq_true', h]; simp; omega)]
  simp only [Int.toNat_natCast, cn]
  rw [(thN_lt h hi).2]

theorem before_hb {l : List Ev} (h : AllR l) {i k : Nat} (hi : i < l.length) (hk : k < l.length) : beforeN l (i : Int) (k : Int) = hbf l i k := by
  unfold beforeN
  rw [if_neg (by simp only [Bool.or_eq_true, decide_eq_true_eq, Bool.not_eq_true', h, imin_eq, imax_eq]; simp; omega)]
  rw [numN_eq h hi]
  rw [Bool.eq_iff_iff]
  simp only [Int.toNat_natCast, hbf, ck, thN, Int.ofNat_le, Bool.and_eq_true, decide_eq_true_eq]
  constructor <;> exact fun ⟨a, b⟩ => ⟨a, decide_eq_true (of_decide_eq_true b)⟩
end Go.Proofs.Ytakaimfpicjpaaa
