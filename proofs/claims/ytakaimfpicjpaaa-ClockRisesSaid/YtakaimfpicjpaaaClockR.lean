/-
  Plain laws of clocks: how the program, and how the document, tell that rows are the same.
-/
import Derived.Test.YtakaimfpicjpaaaClockQ
set_option linter.unusedSimpArgs false
set_option linter.unusedVariables false
namespace Go.Proofs.Ytakaimfpicjpaaa
open Go Go.Sn

def whM (b : List Ev) (k : Nat) : List ((Int × Int) × Ev) := (List.range k).map fun i => (pt b i, b.getD i default)
def knM (b : List Ev) (k : Nat) : List ((Int × Int) × List Int) := (List.range k).map fun i => (pt b i, clkAt b i)
def ev0 : Ev := ⟨0, 0, 0, false⟩
def okAt (a b : List Ev) (i : Nat) : Bool :=
  decide ((getM (whM b b.length) (pt a i)).getD ev0 = a.getD i default) && decide ((getM (knM b b.length) (pt a i)).getD [0, 0, 0, 0] = clkAt a i)
def sameE (a b : List Ev) : Bool := a.all rightR && b.all rightR && decide (a.length = b.length) && (List.range a.length).all (okAt a b)

theorem pts_nodup {b : List Ev} (h : AllR b) {k : Nat} (hk : k ≤ b.length) : ((List.range k).map (pt b)).Nodup := by
  rw [List.nodup_iff_pairwise_ne, List.pairwise_map]
  have h0 : (List.range k).Nodup := List.nodup_range
  rw [List.nodup_iff_pairwise_ne] at h0
  refine h0.imp_of_mem fun {i j} hi hj hne e => hne (pt_inj h ?_ ?_ e)
  · have := List.mem_range.1 hi; omega
  · have := List.mem_range.1 hj; omega
theorem whM_keys (b : List Ev) (k : Nat) : (whM b k).map (·.1) = (List.range k).map (pt b) := by simp [whM, List.map_map, Function.comp]
theorem knM_keys (b : List Ev) (k : Nat) : (knM b k).map (·.1) = (List.range k).map (pt b) := by simp [knM, List.map_map, Function.comp]
theorem whM_new {b : List Ev} (h : AllR b) {k : Nat} (hk : k < b.length) : getM (whM b k) (pt b k) = none := by
  refine getM_none_of fun x hx e => ?_
  obtain ⟨i, hi, rfl⟩ := List.mem_map.1 hx
  have := List.mem_range.1 hi
  have := pt_inj h (show i < b.length by omega) hk e
  omega
theorem knM_new {b : List Ev} (h : AllR b) {k : Nat} (hk : k < b.length) : getM (knM b k) (pt b k) = none := by
  refine getM_none_of fun x hx e => ?_
  obtain ⟨i, hi, rfl⟩ := List.mem_map.1 hx
  have := List.mem_range.1 hi
  have := pt_inj h (show i < b.length by omega) hk e
  omega
theorem whM_put {b : List Ev} (h : AllR b) {k : Nat} (hk : k < b.length) : putM (whM b k) (pt b k) (b.getD k default) = whM b (k + 1) := by
  rw [putM_new (whM_new h hk)]
  simp [whM, List.range_succ]
theorem knM_put {b : List Ev} (h : AllR b) {k : Nat} (hk : k < b.length) : putM (knM b k) (pt b k) (clkAt b k) = knM b (k + 1) := by
  rw [putM_new (knM_new h hk)]
  simp [knM, List.range_succ]

theorem okAt_iff {a b : List Ev} (ha : AllR a) (hb : AllR b) {i : Nat} (hi : i < a.length) : okAt a b i = true ↔ At b (a.getD i default, clkAt a i) := by
  unfold okAt
  rw [Bool.and_eq_true, decide_eq_true_eq, decide_eq_true_eq]
  have nw : ((whM b b.length).map (·.1)).Nodup := by rw [whM_keys]; exact pts_nodup hb (Nat.le_refl _)
  have nk : ((knM b b.length).map (·.1)).Nodup := by rw [knM_keys]; exact pts_nodup hb (Nat.le_refl _)
  constructor
  · rintro ⟨h1, h2⟩
    cases hg : getM (whM b b.length) (pt a i) with
    | none =>
      rw [hg] at h1
      have := right_bounds (rightR_getD ha hi)
      rw [← h1] at this
      simp [ev0] at this
    | some v =>
      rw [hg] at h1
      obtain ⟨j, hj, e⟩ := List.mem_map.1 (getM_some hg)
      injection e with e1 e2
      have hjl := List.mem_range.1 hj
      have hk : getM (knM b b.length) (pt a i) = some (clkAt b j) := getM_of_mem nk (List.mem_map.2 ⟨j, hj, by rw [e1]⟩)
      rw [hk] at h2
      simp only [Option.getD_some] at h1 h2
      exact ⟨j, hjl, by rw [e2, h1, h2]⟩
  · rintro ⟨j, hj, e⟩
    have hp : pt b j = pt a i := by unfold pt; rw [e]
    injection e with e1 e2
    have hw : getM (whM b b.length) (pt a i) = some (b.getD j default) := getM_of_mem nw (List.mem_map.2 ⟨j, List.mem_range.2 hj, by rw [hp]⟩)
    have hk : getM (knM b b.length) (pt a i) = some (clkAt b j) := getM_of_mem nk (List.mem_map.2 ⟨j, List.mem_range.2 hj, by rw [hp]⟩)
    rw [hw, hk]
    exact ⟨e1, e2⟩

theorem sameE_iff {a b : List Ev} (ha : AllR a) (hb : AllR b) : sameE a b = true ↔ Iso a b := by
  have ha' : a.all rightR = true := ha
  have hb' : b.all rightR = true := hb
  unfold sameE
  rw [ha', hb', Bool.true_and, Bool.true_and, Bool.and_eq_true, decide_eq_true_eq, List.all_eq_true]
  constructor
  · rintro ⟨hl, h⟩
    refine iso_of ha hb hl ?_
    rintro x ⟨i, hi, rfl⟩
    exact (okAt_iff ha hb hi).1 (h i (List.mem_range.2 hi))
  · intro h
    refine ⟨h.len ha hb, fun i hi => ?_⟩
    have hi' := List.mem_range.1 hi
    exact (okAt_iff ha hb hi').2 ((h _).1 ⟨i, hi', rfl⟩)

/-! ### by definition -/

def pAt (l : List Ev) (t : Int) (n : Nat) (i : Nat) : Bool := decide ((l.getD i default).th = t) && decide (cntT t (l.take (i + 1)) = n)
def placeN (l : List Ev) (t : Int) (n : Nat) : Int := match (List.range l.length).find? (pAt l t n) with
  | some i => (i : Int)
  | none => -1
def toI (a b : List Ev) (i : Nat) : Int := placeN b (a.getD i default).th (cntT (a.getD i default).th (a.take (i + 1)))
def okTo (a b : List Ev) (i : Nat) : Bool := decide (0 ≤ toI a b i) && decide (b.getD (toI a b i).toNat default = a.getD i default)
def okOrd (a b : List Ev) (i k : Nat) : Bool := decide (ordB a i k = ordB b (toI a b i).toNat (toI a b k).toNat)
def sameR (a b : List Ev) : Bool :=
  decide (a.length = b.length) && a.all rightR && b.all rightR && (List.range a.length).all (okTo a b) && (List.range a.length).all fun i => (List.range a.length).all (okOrd a b i)

theorem placeN_le (l : List Ev) (t : Int) (n : Nat) : placeN l t n < (l.length : Int) ∧ -1 ≤ placeN l t n := by
  unfold placeN
  split
  · rename_i i h
    have := List.mem_range.1 (List.mem_of_find?_eq_some h)
    omega
  · omega
theorem placeN_some {l : List Ev} {t : Int} {n j : Nat} (h : AllR l) (hj : j < l.length) (ht : (thN l j : Int) = t) (hn : cn l (j + 1) (thN l j) = n) : placeN l t n = (j : Int) := by
  have hp : pAt l t n j = true := by
    unfold pAt
    rw [Bool.and_eq_true, decide_eq_true_eq, decide_eq_true_eq, ← (thN_lt h hj).2]
    refine ⟨ht, ?_⟩
    unfold cn at hn
    rw [ht] at hn
    exact hn
  unfold placeN
  cases hf : (List.range l.length).find? (pAt l t n) with
  | none =>
    rw [List.find?_eq_none] at hf
    exact absurd hp (hf j (List.mem_range.2 hj))
  | some i =>
    have hi := List.mem_range.1 (List.mem_of_find?_eq_some hf)
    have hpi := List.find?_some hf
    unfold pAt at hpi
    rw [Bool.and_eq_true, decide_eq_true_eq, decide_eq_true_eq] at hpi
    have h1 : thN l i = thN l j := by have := (thN_lt h hi).2; omega
    have h2 : cn l (i + 1) (thN l i) = n := by unfold cn; rw [h1, ht]; exact hpi.2
    have := cn_inj h hi hj h1 (by rw [h2]; exact hn.symm)
    rw [this]
theorem placeN_spec {l : List Ev} {t : Int} {n : Nat} (h : AllR l) (h0 : 0 ≤ placeN l t n) : (placeN l t n).toNat < l.length ∧ (thN l (placeN l t n).toNat : Int) = t ∧ cn l ((placeN l t n).toNat + 1) (thN l (placeN l t n).toNat) = n := by
  unfold placeN at h0 ⊢
  cases hf : (List.range l.length).find? (pAt l t n) with
  | none => rw [hf] at h0; simp at h0
  | some i =>
    have hi := List.mem_range.1 (List.mem_of_find?_eq_some hf)
    have hpi := List.find?_some hf
    unfold pAt at hpi
    rw [Bool.and_eq_true, decide_eq_true_eq, decide_eq_true_eq] at hpi
    have h1 : (thN l i : Int) = t := by rw [(thN_lt h hi).2]; exact hpi.1
    simp only [Int.toNat_natCast]
    refine ⟨hi, h1, ?_⟩
    unfold cn
    rw [h1]
    exact hpi.2

theorem toI_some {a b : List Ev} (ha : AllR a) (hb : AllR b) {i j : Nat} (hi : i < a.length) (hj : j < b.length) (e : pt b j = pt a i) : toI a b i = (j : Int) := by
  rw [pt_eq ha hi, pt_eq hb hj] at e
  injection e with e1 e2
  unfold toI
  refine placeN_some hb hj (by rw [e1]; exact (thN_lt ha hi).2) ?_
  have : cntT (a.getD i default).th (a.take (i + 1)) = cn a (i + 1) (thN a i) := by unfold cn; rw [(thN_lt ha hi).2]
  rw [this]
  omega
theorem hb_iff {l : List Ev} (h : AllR l) {i k : Nat} (hi : i < l.length) (hk : k < l.length) : hbf l i k = true ↔ (cn l (i + 1) (thN l i) : Int) ≤ ck l k (thN l i) := by
  unfold hbf
  rw [Bool.and_eq_true, decide_eq_true_eq, decide_eq_true_eq]
  constructor
  · exact fun h => h.2
  · intro h1
    refine ⟨?_, h1⟩
    have := ck_le h k hk (thN l i)
    exact le_of_cn h hi hk rfl (by omega)

theorem sameR_iff {a b : List Ev} (ha : AllR a) (hb : AllR b) : sameR a b = true ↔ Iso a b := by
  have ha' : a.all rightR = true := ha
  have hb' : b.all rightR = true := hb
  unfold sameR
  rw [ha', hb', Bool.and_true, Bool.and_true, Bool.and_eq_true, Bool.and_eq_true, decide_eq_true_eq, List.all_eq_true, List.all_eq_true]
  constructor
  · rintro ⟨⟨hl, h1⟩, h2⟩
    have hto : ∀ i, i < a.length → ∃ j, j < b.length ∧ toI a b i = (j : Int) ∧ b.getD j default = a.getD i default ∧ thN b j = thN a i ∧ cn b (j + 1) (thN a i) = cn a (i + 1) (thN a i) := by
      intro i hi
      have h3 := h1 i (List.mem_range.2 hi)
      unfold okTo at h3
      rw [Bool.and_eq_true, decide_eq_true_eq, decide_eq_true_eq] at h3
      obtain ⟨h4, h5⟩ := h3
      have h6 := placeN_spec hb (show 0 ≤ placeN b (a.getD i default).th (cntT (a.getD i default).th (a.take (i + 1))) from h4)
      have h7 : thN b (toI a b i).toNat = thN a i := by unfold thN; rw [h5]
      refine ⟨(toI a b i).toNat, h6.1, by omega, h5, h7, ?_⟩
      rw [← h7]
      have h8 := h6.2.2
      unfold toI at h7 ⊢
      rw [h8]
      unfold cn
      rw [h7, (thN_lt ha hi).2]
    have hN : ∀ t, cn a a.length t ≤ cn b b.length t := by
      intro t
      by_cases hp : 0 < cn a a.length t
      · obtain ⟨i, g1, g2, g3⟩ := cn_last ha t (Nat.le_refl _) hp
        obtain ⟨j, g4, _, _, g5, g6⟩ := hto i g1
        rw [g2] at g6
        have := cn_mono hb t (i := j + 1) (k := b.length) (by omega) (Nat.le_refl _)
        omega
      · omega
    have la := len_cn ha (Nat.le_refl a.length)
    have lb := len_cn hb (Nat.le_refl b.length)
    have hE : ∀ t, t < 4 → cn a a.length t = cn b b.length t := by
      intro t ht
      have h0 := hN 0
      have h1 := hN 1
      have h2 := hN 2
      have h3 := hN 3
      have : t = 0 ∨ t = 1 ∨ t = 2 ∨ t = 3 := by omega
      rcases this with rfl | rfl | rfl | rfl <;> omega
    have hord : ∀ i k ji jk, i < a.length → k < a.length → ji < b.length → jk < b.length → toI a b i = (ji : Int) → toI a b k = (jk : Int) → hbf a k i = hbf b jk ji := by
      intro i k ji jk hi hk hji hjk e1 e2
      have h3 := h2 i (List.mem_range.2 hi)
      rw [List.all_eq_true] at h3
      have h4 := h3 k (List.mem_range.2 hk)
      unfold okOrd at h4
      rw [decide_eq_true_eq, e1, e2, Int.toNat_natCast, Int.toNat_natCast, ord_hb ha i hi k hk, ord_hb hb ji hji jk hjk] at h4
      exact h4
    refine iso_of ha hb hl ?_
    rintro x ⟨i, hi, rfl⟩
    obtain ⟨j, g1, g2, g3, g4, g5⟩ := hto i hi
    refine ⟨j, g1, ?_⟩
    rw [g3]
    congr 1
    apply ext_getD
    · rw [clkAt_length g1, clkAt_length hi]
    · intro t
      rw [clkAt_getD, clkAt_getD]
      by_cases ht : t < 4
      · have n1 := ck_nonneg a hi t
        have n2 := ck_nonneg b g1 t
        have le1 : ck a i t ≤ ck b j t := by
          by_cases hp : 0 < ck a i t
          · have hc := ck_le ha i hi t
            have hm := cn_mono ha t (i := i + 1) (k := a.length) (by omega) (Nat.le_refl _)
            obtain ⟨k, k1, k2, k3⟩ := cn_ex ha t (ck a i t).toNat (by omega) (Nat.le_refl a.length) (by omega)
            obtain ⟨jk, m1, m2, m3, m4, m5⟩ := hto k k1
            have e := hord i k j jk hi k1 g1 m1 g2 m2
            have h5 : hbf a k i = true := (hb_iff ha k1 hi).2 (by rw [k2, k3]; omega)
            rw [h5] at e
            have h6 := (hb_iff hb m1 g1).1 e.symm
            rw [k2] at m4 m5
            rw [m4, m5, k3] at h6
            omega
          · omega
        have le2 : ck b j t ≤ ck a i t := by
          by_cases hp : 0 < ck b j t
          · have hc := ck_le hb j g1 t
            have hm := cn_mono hb t (i := j + 1) (k := b.length) (by omega) (Nat.le_refl _)
            rw [← hE t ht] at hm
            obtain ⟨k, k1, k2, k3⟩ := cn_ex ha t (ck b j t).toNat (by omega) (Nat.le_refl a.length) (by omega)
            obtain ⟨jk, m1, m2, m3, m4, m5⟩ := hto k k1
            have e := hord i k j jk hi k1 g1 m1 g2 m2
            rw [k2] at m4 m5
            have h5 : hbf b jk j = true := (hb_iff hb m1 g1).2 (by rw [m4, m5, k3]; omega)
            rw [h5] at e
            have h6 := (hb_iff ha k1 hi).1 e
            rw [k2, k3] at h6
            omega
          · omega
        omega
      · have l1 := clkAt_length hi
        have l2 := clkAt_length g1
        rw [← clkAt_getD, ← clkAt_getD, List.getD_eq_getElem?_getD, List.getD_eq_getElem?_getD, List.getElem?_eq_none (by omega), List.getElem?_eq_none (by omega)]
  · intro h
    have hex : ∀ i, i < a.length → ∃ j, j < b.length ∧ toI a b i = (j : Int) ∧ b.getD j default = a.getD i default ∧ clkAt b j = clkAt a i ∧ pt b j = pt a i := by
      intro i hi
      obtain ⟨j, hj, e⟩ := (h _).1 ⟨i, hi, rfl⟩
      have hp : pt b j = pt a i := by unfold pt; rw [e]
      injection e with e1 e2
      exact ⟨j, hj, toI_some ha hb hi hj hp, e1, e2, hp⟩
    refine ⟨⟨h.len ha hb, fun i hi => ?_⟩, fun i hi => List.all_eq_true.2 fun k hk => ?_⟩
    · obtain ⟨j, g1, g2, g3, _⟩ := hex i (List.mem_range.1 hi)
      unfold okTo
      rw [Bool.and_eq_true, decide_eq_true_eq, decide_eq_true_eq, g2, Int.toNat_natCast]
      exact ⟨by omega, g3⟩
    · have hi' := List.mem_range.1 hi
      have hk' := List.mem_range.1 hk
      obtain ⟨j, g1, g2, g3, g4, _⟩ := hex i hi'
      obtain ⟨m, m1, m2, m3, m4, m5⟩ := hex k hk'
      unfold okOrd
      rw [decide_eq_true_eq, g2, m2, Int.toNat_natCast, Int.toNat_natCast, ord_hb ha i hi' k hk', ord_hb hb j g1 m m1, Bool.eq_iff_iff, hb_iff ha hk' hi', hb_iff hb m1 g1]
      rw [pt_eq ha hk', pt_eq hb m1] at m5
      injection m5 with e1 e2
      have e1' : thN b m = thN a k := by omega
      rw [← clkAt_getD, ← clkAt_getD, g4, e1']
      rw [e1'] at e2
      rw [e2]

/-- The document's answer is the program's. -/
theorem same_eq (a b : List Ev) : sameE a b = sameR a b := by
  by_cases h : a.all rightR = true ∧ b.all rightR = true
  · rw [Bool.eq_iff_iff, sameE_iff h.1 h.2, sameR_iff h.1 h.2]
  · unfold sameE sameR
    cases h1 : a.all rightR <;> cases h2 : b.all rightR <;> simp_all
end Go.Proofs.Ytakaimfpicjpaaa
