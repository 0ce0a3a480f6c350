/-
  Plain laws of clocks: the document's clocks; rows that are the same.
-/
import Derived.Test.YtakaimfpicjpaaaClockP
set_option linter.unusedSimpArgs false
set_option linter.unusedVariables false
namespace Go.Proofs.Ytakaimfpicjpaaa
open Go Go.Sn

theorem ext_getD {c d : List Int} (h : c.length = d.length) (he : ∀ t, c.getD t 0 = d.getD t 0) : c = d := by
  apply List.ext_getElem h
  intro i h1 h2
  have := he i
  simpa [List.getD_eq_getElem?_getD, List.getElem?_eq_getElem h1, List.getElem?_eq_getElem h2] using this

theorem cntR_get {l : List Ev} (h : AllR l) {k : Nat} (hk : k < l.length) (t : Nat) : ∀ {m : Nat}, m ≤ k + 1 →
    (cntR l ((ordU l l.length).getD k []) m).getD t 0 = min (ck l k t) (cn l m t : Int)
  | 0, _ => by
    have := ck_nonneg l hk t
    have h0 : (cntR l ((ordU l l.length).getD k []) 0).getD t 0 = 0 := by
      unfold cntR
      match t with
      | 0 => rfl
      | 1 => rfl
      | 2 => rfl
      | 3 => rfl
      | t + 4 => rfl
    rw [h0, cn_zero]
    omega
  | m + 1, hm => by
    have ih := cntR_get h hk t (m := m) (by omega)
    have hr : ((ordU l l.length).getD k []).getD m false = hbf l m k := ord_hb h k hk m (by omega)
    have hs := cn_succ h (i := m) (by omega) t
    have h4 := (okC_cntR l ((ordU l l.length).getD k []) m).1
    have ht4 := (thN_lt h (i := m) (by omega)).1
    unfold cntR
    rw [hr]
    by_cases hh : hbf l m k = true
    · rw [if_pos hh, bump_getD (by rw [h4]; exact ht4), ih]
      have hh' : m ≤ k ∧ (cn l (m + 1) (thN l m) : Int) ≤ ck l k (thN l m) := by simpa [hbf] using hh
      change min (ck l k t) (cn l m t : Int) + (if thN l m = t then 1 else 0) = _
      split
      · rename_i e
        rw [if_pos e] at hs
        have h2 := hh'.2
        rw [e] at h2
        omega
      · rename_i e
        rw [if_neg e] at hs
        omega
    · rw [if_neg hh, ih]
      by_cases e : thN l m = t
      · rw [if_pos e] at hs
        have h2 : ¬ ((cn l (m + 1) (thN l m) : Int) ≤ ck l k (thN l m)) := by
          intro h3
          exact hh (by simp [hbf, h3]; omega)
        rw [e] at h2
        omega
      · rw [if_neg e] at hs
        omega
theorem clkR_get (l : List Ev) {k : Nat} : ∀ {m : Nat}, k < m → (clkR l m).getD k [] = cntR l ((ordU l l.length).getD k []) (k + 1)
  | 0, h => by omega
  | m + 1, h => by
    rw [show clkR l (m + 1) = clkR l m ++ [cntR l ((ordU l l.length).getD m []) (m + 1)] from rfl]
    rcases Nat.lt_or_ge k m with hlt | hge
    · rw [List.getD_eq_getElem?_getD, List.getElem?_append_left (by rw [clkR_length]; exact hlt), ← List.getD_eq_getElem?_getD]
      exact clkR_get l hlt
    · obtain rfl : k = m := by omega
      rw [List.getD_eq_getElem?_getD, List.getElem?_append_right (by rw [clkR_length]; exact Nat.le_refl _), clkR_length]
      simp
/-- The document's clocks are the program's. -/
theorem clkR_eq {l : List Ev} (h : AllR l) : clkR l l.length = clkU l l.length := by
  apply List.ext_getElem (by rw [clkR_length, clkU_length])
  intro k h1 h2
  rw [clkU_length] at h2
  have e1 : (clkR l l.length)[k] = (clkR l l.length).getD k [] := by simp [List.getD_eq_getElem?_getD, List.getElem?_eq_getElem h1]
  have e2 : (clkU l l.length)[k]'(by rw [clkU_length]; exact h2) = (clkU l l.length).getD k [] := by simp [List.getD_eq_getElem?_getD, clkU_length, h2]
  rw [e1, e2, clkR_get l h2]
  apply ext_getD
  · rw [(okC_cntR _ _ _).1, (okC_getD h2).1]
  · intro t
    rw [cntR_get h h2 t (Nat.le_refl _)]
    show _ = ck l k t
    have := ck_le h k h2 t
    omega

/-! ### rows that are the same -/

/-- The clock of the `i`-th. -/
def clkAt (l : List Ev) (i : Nat) : List Int := (clkU l l.length).getD i []
theorem clkAt_getD (l : List Ev) (i t : Nat) : (clkAt l i).getD t 0 = ck l i t := rfl
theorem clkAt_length {l : List Ev} {i : Nat} (h : i < l.length) : (clkAt l i).length = 4 := (okC_getD h).1

/-- An event and its clock, of a row. -/
def At (l : List Ev) (x : Ev × List Int) : Prop := ∃ i, i < l.length ∧ (l.getD i default, clkAt l i) = x
/-- Its thread and number. -/
def ptx (x : Ev × List Int) : Int × Int := (x.1.th, x.2.getD x.1.th.toNat 0)
def pt (l : List Ev) (i : Nat) : Int × Int := ptx (l.getD i default, clkAt l i)

theorem pt_eq {l : List Ev} (h : AllR l) {i : Nat} (hi : i < l.length) : pt l i = ((thN l i : Int), (cn l (i + 1) (thN l i) : Int)) := by
  unfold pt ptx
  rw [(thN_lt h hi).2]
  congr 1
  exact ck_own h i hi
theorem pt_inj {l : List Ev} (h : AllR l) {i j : Nat} (hi : i < l.length) (hj : j < l.length) (e : pt l i = pt l j) : i = j := by
  rw [pt_eq h hi, pt_eq h hj] at e
  injection e with e1 e2
  have e1' : thN l i = thN l j := by omega
  refine cn_inj h hi hj e1' ?_
  rw [← e1'] at e2
  rw [← e1']
  omega
theorem At.uniq {l : List Ev} (h : AllR l) {x y : Ev × List Int} (hx : At l x) (hy : At l y) (e : ptx x = ptx y) : x = y := by
  obtain ⟨i, hi, rfl⟩ := hx
  obtain ⟨j, hj, rfl⟩ := hy
  obtain rfl := pt_inj h hi hj e
  rfl

def Iso (a b : List Ev) : Prop := ∀ x, At a x ↔ At b x
theorem Iso.refl (a : List Ev) : Iso a a := fun _ => Iff.rfl
theorem Iso.symm {a b : List Ev} (h : Iso a b) : Iso b a := fun x => (h x).symm
theorem Iso.trans {a b c : List Ev} (h : Iso a b) (k : Iso b c) : Iso a c := fun x => (h x).trans (k x)

theorem len_cn {l : List Ev} (h : AllR l) : ∀ {i : Nat}, i ≤ l.length → cn l i 0 + cn l i 1 + cn l i 2 + cn l i 3 = i
  | 0, _ => by simp [cn_zero]
  | i + 1, hi => by
    have ih := len_cn h (i := i) (by omega)
    have h0 := cn_succ h (i := i) (by omega) 0
    have h1 := cn_succ h (i := i) (by omega) 1
    have h2 := cn_succ h (i := i) (by omega) 2
    have h3 := cn_succ h (i := i) (by omega) 3
    have h4 := (thN_lt h (i := i) (by omega)).1
    have : thN l i = 0 ∨ thN l i = 1 ∨ thN l i = 2 ∨ thN l i = 3 := by omega
    rcases this with e | e | e | e <;> simp only [e] at h0 h1 h2 h3 <;> simp at h0 h1 h2 h3 <;> omega

theorem sub_cn {a b : List Ev} (ha : AllR a) (hb : AllR b) (hs : ∀ x, At a x → At b x) (t : Nat) : cn a a.length t ≤ cn b b.length t := by
  by_cases hp : 0 < cn a a.length t
  · obtain ⟨i, h1, h2, h3⟩ := cn_last ha t (Nat.le_refl _) hp
    obtain ⟨j, h4, h5⟩ := hs _ ⟨i, h1, rfl⟩
    have h6 : pt b j = pt a i := by unfold pt; rw [h5]
    rw [pt_eq ha h1, pt_eq hb h4] at h6
    injection h6 with h7 h8
    have h7' : thN b j = t := by omega
    rw [h7', h2, h3] at h8
    have := cn_mono hb t (i := j + 1) (k := b.length) (by omega) (Nat.le_refl _)
    omega
  · omega

theorem iso_of {a b : List Ev} (ha : AllR a) (hb : AllR b) (hl : a.length = b.length) (hs : ∀ x, At a x → At b x) : Iso a b := by
  have hN : ∀ t, cn a a.length t ≤ cn b b.length t := sub_cn ha hb hs
  have la := len_cn ha (Nat.le_refl a.length)
  have lb := len_cn hb (Nat.le_refl b.length)
  have hE : ∀ t, t < 4 → cn a a.length t = cn b b.length t := by
    intro t ht
    have h0 := hN 0
    have h1 := hN 1
    have h2 := hN 2
    have h3 := hN 3
    have : t = 0 ∨ t = 1 ∨ t = 2 ∨ t = 3 := by omega
    rcases this with rfl | rfl | rfl | rfl <;> omega
  refine fun x => ⟨hs x, ?_⟩
  rintro ⟨j, hj, rfl⟩
  have ht := (thN_lt hb hj).1
  have h1 := cn_mono hb (thN b j) (i := j + 1) (k := b.length) (by omega) (Nat.le_refl _)
  obtain ⟨i, h2, h3, h4⟩ := cn_ex ha (thN b j) _ (cn_pos hb hj) (Nat.le_refl a.length) (by rw [hE _ ht]; exact h1)
  have h5 : At b (a.getD i default, clkAt a i) := hs _ ⟨i, h2, rfl⟩
  have h6 : (a.getD i default, clkAt a i) = (b.getD j default, clkAt b j) := by
    refine h5.uniq hb ⟨j, hj, rfl⟩ ?_
    show pt a i = pt b j
    rw [pt_eq ha h2, pt_eq hb hj, h3, h4]
  exact ⟨i, h2, h6⟩
theorem Iso.cnt {a b : List Ev} (h : Iso a b) (ha : AllR a) (hb : AllR b) (t : Nat) : cn a a.length t = cn b b.length t :=
  Nat.le_antisymm (sub_cn ha hb (fun x hx => (h x).1 hx) t) (sub_cn hb ha (fun x hx => (h x).2 hx) t)
theorem Iso.len {a b : List Ev} (h : Iso a b) (ha : AllR a) (hb : AllR b) : a.length = b.length := by
  have la := len_cn ha (Nat.le_refl a.length)
  have lb := len_cn hb (Nat.le_refl b.length)
  have h0 := h.cnt ha hb 0
  have h1 := h.cnt ha hb 1
  have h2 := h.cnt ha hb 2
  have h3 := h.cnt ha hb 3
  omega

/-! ### one event more -/

theorem jf_congr {l m : List Ev} {cs ds : List (List Int)} (e : Ev) : ∀ {i : Nat}, (∀ j, j < i → l.getD j default = m.getD j default ∧ cs.getD j [] = ds.getD j []) → jf cs l e i = jf ds m e i
  | 0, _ => rfl
  | i + 1, h => by
    unfold jf
    rw [jf_congr e (i := i) fun j hj => h j (by omega), (h i (by omega)).1, (h i (by omega)).2]
theorem clkU_congr {l m : List Ev} : ∀ {k : Nat}, (∀ j, j < k → l.getD j default = m.getD j default) → clkU l k = clkU m k
  | 0, _ => rfl
  | k + 1, h => by
    have ih := clkU_congr (k := k) fun j hj => h j (by omega)
    unfold clkU
    rw [ih, h k (by omega), jf_congr (l := l) (m := m) _ fun j hj => ⟨h j (by omega), rfl⟩]

/-- The clock of one event more. -/
def newC (l : List Ev) (e : Ev) : List Int := bump e.th (jf (clkU l l.length) l e l.length)
theorem getD_app (l : List Ev) (v : List Ev) {j : Nat} (h : j < l.length) : (l ++ v).getD j default = l.getD j default := by
  simp [List.getD_eq_getElem?_getD, List.getElem?_append_left h]
theorem clkAt_app (l v : List Ev) {j : Nat} (h : j < l.length) : clkAt (l ++ v) j = clkAt l j := by
  unfold clkAt
  rw [clkU_get _ (show j < (l ++ v).length by simp; omega), clkU_get _ h, getD_app _ _ h,
    clkU_congr (l := l ++ v) (m := l) (k := j) (fun i hi => getD_app _ _ (by omega)), jf_congr (l := l ++ v) (m := l) _ fun i hi => ⟨getD_app _ _ (by omega), rfl⟩]
theorem clkAt_new (l : List Ev) (e : Ev) : clkAt (l ++ [e]) l.length = newC l e := by
  unfold clkAt newC
  rw [clkU_get _ (show l.length < (l ++ [e]).length by simp)]
  have he : (l ++ [e]).getD l.length default = e := by simp [List.getD_eq_getElem?_getD]
  rw [he, clkU_congr (l := l ++ [e]) (m := l) (k := l.length) (fun i hi => getD_app _ _ (by omega)), jf_congr (l := l ++ [e]) (m := l) _ fun i hi => ⟨getD_app _ _ (by omega), rfl⟩]

theorem at_snoc (l : List Ev) (e : Ev) (x : Ev × List Int) : At (l ++ [e]) x ↔ At l x ∨ x = (e, newC l e) := by
  constructor
  · rintro ⟨i, hi, rfl⟩
    simp only [List.length_append, List.length_cons, List.length_nil] at hi
    rcases Nat.lt_or_ge i l.length with h | h
    · exact .inl ⟨i, h, by rw [getD_app _ _ h, clkAt_app _ _ h]⟩
    · obtain rfl : i = l.length := by omega
      right
      rw [clkAt_new]
      simp [List.getD_eq_getElem?_getD]
  · rintro (⟨i, hi, rfl⟩ | rfl)
    · exact ⟨i, by simp; omega, by rw [getD_app _ _ hi, clkAt_app _ _ hi]⟩
    · exact ⟨l.length, by simp, by rw [clkAt_new]; simp [List.getD_eq_getElem?_getD]⟩

theorem newC_jle (l : List Ev) (e : Ev) (t : Nat) (n : Int) : n ≤ (jf (clkU l l.length) l e l.length).getD t 0 ↔ n ≤ 0 ∨ ∃ x, At l x ∧ depE x.1 e = true ∧ n ≤ x.2.getD t 0 := by
  rw [jf_le l e (Nat.le_refl _) t n (Nat.le_refl _)]
  constructor
  · rintro (h | ⟨j, h1, h2, h3⟩)
    · exact .inl h
    · exact .inr ⟨_, ⟨j, h1, rfl⟩, h2, h3⟩
  · rintro (h | ⟨x, ⟨j, h1, rfl⟩, h2, h3⟩)
    · exact .inl h
    · exact .inr ⟨j, h1, h2, h3⟩
theorem jfl_length (l : List Ev) (e : Ev) : (jf (clkU l l.length) l e l.length).length = 4 := (OkC.jf (okC_clkU l l.length) l.length (by rw [clkU_length]; exact Nat.le_refl _)).1
/-- It is told by those that it depends on. -/
theorem newC_congr {a b : List Ev} {e : Ev} (h : ∀ x, depE x.1 e = true → (At a x ↔ At b x)) : newC a e = newC b e := by
  unfold newC
  congr 1
  apply ext_getD
  · rw [jfl_length, jfl_length]
  · intro t
    have key : ∀ n, n ≤ (jf (clkU a a.length) a e a.length).getD t 0 ↔ n ≤ (jf (clkU b b.length) b e b.length).getD t 0 := by
      intro n
      rw [newC_jle, newC_jle]
      constructor
      · rintro (h1 | ⟨x, h1, h2, h3⟩)
        · exact .inl h1
        · exact .inr ⟨x, (h x h2).1 h1, h2, h3⟩
      · rintro (h1 | ⟨x, h1, h2, h3⟩)
        · exact .inl h1
        · exact .inr ⟨x, (h x h2).2 h1, h2, h3⟩
    have h1 := (key _).1 (Int.le_refl _)
    have h2 := (key _).2 (Int.le_refl _)
    omega
theorem allR_snoc {l : List Ev} {e : Ev} : AllR (l ++ [e]) ↔ AllR l ∧ rightR e = true := by simp [AllR]
theorem cn_app (l v : List Ev) {i : Nat} (h : i ≤ l.length) (t : Nat) : cn (l ++ v) i t = cn l i t := by
  unfold cn
  rw [List.take_append_of_le_length h]
theorem thN_app (l v : List Ev) {i : Nat} (h : i < l.length) : thN (l ++ v) i = thN l i := by unfold thN; rw [getD_app _ _ h]

theorem ptx_new {l : List Ev} {e : Ev} (h : AllR l) (he : rightR e = true) : ptx (e, newC l e) = ((e.th.toNat : Int), ((cn l l.length e.th.toNat + 1 : Nat) : Int)) := by
  have h1 : AllR (l ++ [e]) := allR_snoc.2 ⟨h, he⟩
  have h2 := pt_eq h1 (i := l.length) (by simp)
  have hth : thN (l ++ [e]) l.length = e.th.toNat := by simp [thN, List.getD_eq_getElem?_getD]
  rw [cn_succ h1 (by simp), hth, if_pos rfl, cn_app _ _ (Nat.le_refl _)] at h2
  rw [← h2]
  unfold pt
  rw [clkAt_new]
  simp [List.getD_eq_getElem?_getD]

theorem Iso.snoc {a b : List Ev} (h : Iso a b) (e : Ev) : Iso (a ++ [e]) (b ++ [e]) := by
  intro x
  rw [at_snoc, at_snoc, newC_congr (a := a) (b := b) fun x _ => h x, h x]
theorem Iso.app {a b : List Ev} (h : Iso a b) : ∀ (v : List Ev), Iso (a ++ v) (b ++ v)
  | [] => by simpa using h
  | e :: v => by
    have := Iso.app (h.snoc e) v
    simpa using this
theorem at_num {l : List Ev} (h : AllR l) {x : Ev × List Int} (hx : At l x) : (ptx x).2 ≤ (cn l l.length x.1.th.toNat : Int) := by
  obtain ⟨i, hi, rfl⟩ := hx
  have := pt_eq h hi
  unfold pt at this
  rw [this]
  have := cn_mono h (thN l i) (i := i + 1) (k := l.length) (by omega) (Nat.le_refl _)
  simp only [thN] at this ⊢
  omega
theorem Iso.unsnoc {a b : List Ev} {e : Ev} (ha : AllR a) (hb : AllR b) (he : rightR e = true) (h : Iso (a ++ [e]) (b ++ [e])) : Iso a b := by
  have hN : ∀ t, cn a a.length t = cn b b.length t := by
    intro t
    have h1 := h.cnt (allR_snoc.2 ⟨ha, he⟩) (allR_snoc.2 ⟨hb, he⟩) t
    simp only [List.length_append, List.length_cons, List.length_nil] at h1
    rw [cn_succ (allR_snoc.2 ⟨ha, he⟩) (by simp), cn_succ (allR_snoc.2 ⟨hb, he⟩) (by simp), cn_app _ _ (Nat.le_refl _), cn_app _ _ (Nat.le_refl _)] at h1
    have hta : thN (a ++ [e]) a.length = e.th.toNat := by simp [thN, List.getD_eq_getElem?_getD]
    have htb : thN (b ++ [e]) b.length = e.th.toNat := by simp [thN, List.getD_eq_getElem?_getD]
    rw [hta, htb] at h1
    omega
  have key : ∀ (a b : List Ev), AllR a → AllR b → (∀ t, cn a a.length t = cn b b.length t) → (∀ x, At (a ++ [e]) x → At (b ++ [e]) x) → ∀ x, At a x → At b x := by
    intro a b ha hb hN h x hx
    rcases (at_snoc b e x).1 (h x ((at_snoc a e x).2 (.inl hx))) with h1 | rfl
    · exact h1
    · exfalso
      have h1 := at_num ha hx
      rw [ptx_new hb he] at h1
      simp only [hN] at h1
      omega
  exact fun x => ⟨key a b ha hb hN (fun x hx => (h x).1 hx) x, key b a hb ha (fun t => (hN t).symm) (fun x hx => (h x).2 hx) x⟩

/-- Two neighbours that do not depend on one another, swapped. -/
theorem iso_swap (u v : List Ev) {x y : Ev} (hd : depE x y = false) : Iso (u ++ x :: y :: v) (u ++ y :: x :: v) := by
  have hd' : depE y x = false := by rw [depE_comm]; exact hd
  have base : Iso (u ++ [x] ++ [y]) (u ++ [y] ++ [x]) := by
    intro z
    have h1 : newC (u ++ [x]) y = newC u y := newC_congr fun z hz => by
      rw [at_snoc]
      constructor
      · rintro (h | rfl)
        · exact h
        · simp only [hd] at hz; cases hz
      · exact .inl
    have h2 : newC (u ++ [y]) x = newC u x := newC_congr fun z hz => by
      rw [at_snoc]
      constructor
      · rintro (h | rfl)
        · exact h
        · simp only [hd'] at hz; cases hz
      · exact .inl
    rw [at_snoc, at_snoc, at_snoc, at_snoc, h1, h2]
    constructor
    · rintro ((h | h) | h)
      · exact .inl (.inl h)
      · exact .inr h
      · exact .inl (.inr h)
    · rintro ((h | h) | h)
      · exact .inl (.inl h)
      · exact .inr h
      · exact .inl (.inr h)
  have := base.app v
  simpa using this

/-- Two of unlike threads that do. -/
theorem not_iso_swap {u v : List Ev} {x y : Ev} (h : AllR (u ++ x :: y :: v)) (ht : x.th ≠ y.th) (hd : depE x y = true) : ¬ Iso (u ++ y :: x :: v) (u ++ x :: y :: v) := by
  intro hi
  have h2 : AllR (u ++ y :: x :: v) := by
    simp only [AllR, List.all_append, List.all_cons, Bool.and_eq_true] at h ⊢
    exact ⟨h.1, h.2.2.1, h.2.1, h.2.2.2⟩
  have g1 : (u ++ x :: y :: v).getD u.length default = x := by simp [List.getD_eq_getElem?_getD]
  have g2 : (u ++ x :: y :: v).getD (u.length + 1) default = y := by simp [List.getD_eq_getElem?_getD]
  have g3 : (u ++ y :: x :: v).getD u.length default = y := by simp [List.getD_eq_getElem?_getD]
  have l1 : u.length + 1 < (u ++ x :: y :: v).length := by simp
  have l2 : u.length < (u ++ y :: x :: v).length := by simp
  have t1 : thN (u ++ x :: y :: v) u.length = x.th.toNat := by unfold thN; rw [g1]
  have t2 : thN (u ++ x :: y :: v) (u.length + 1) = y.th.toNat := by unfold thN; rw [g2]
  have t3 : thN (u ++ y :: x :: v) u.length = y.th.toNat := by unfold thN; rw [g3]
  have hne : x.th.toNat ≠ y.th.toNat := by
    have b1 := (thN_lt h (i := u.length) (by omega)).2
    have b2 := (thN_lt h l1).2
    rw [t1, g1] at b1
    rw [t2, g2] at b2
    omega
  have hk : clkAt (u ++ x :: y :: v) (u.length + 1) = clkAt (u ++ y :: x :: v) u.length := by
    have ha := (hi _).1 ⟨u.length, l2, rfl⟩
    have := At.uniq h ha ⟨u.length + 1, l1, rfl⟩ (by
      show pt _ _ = pt _ _
      rw [pt_eq h2 l2, pt_eq h l1, t2, t3, cn_succ h2 l2, t3, if_pos rfl, cn_succ h l1, t2, if_pos rfl, cn_succ h (by omega), t1, if_neg hne, cn_app _ _ (Nat.le_refl _), cn_app _ _ (Nat.le_refl _)])
    injection this with _ e
    exact e.symm
  have c1 : ck (u ++ x :: y :: v) (u.length + 1) x.th.toNat = ck (u ++ y :: x :: v) u.length x.th.toNat := by rw [← clkAt_getD, ← clkAt_getD, hk]
  have c2 := ck_dep h l1 (j := u.length) (by omega) (by rw [g1, g2]; exact hd) x.th.toNat
  have c3 := ck_own h u.length (by omega)
  rw [t1, cn_succ h (by omega), t1, if_pos rfl, cn_app _ _ (Nat.le_refl _)] at c3
  have c4 := ck_le h2 u.length l2 x.th.toNat
  rw [cn_succ h2 l2, t3, if_neg (fun e => hne e.symm), cn_app _ _ (Nat.le_refl _)] at c4
  omega
end Go.Proofs.Ytakaimfpicjpaaa
