/-
  Plain laws of races.
-/
import Derived.Test.YtobdagjdhgjplaaClkAS
import Derived.Test.YtobdagjdhgjplaaEvL
set_option linter.unusedSimpArgs false
set_option linter.unusedVariables false
namespace Go.Proofs.Ytobdagjdhgjplaa
open Go Go.Sn Go.RowKit

/-- The last one of a thread, as the document looks for it. -/
def lastI (l : List Ev) (t : Int) : Nat → Int
  | 0 => -1
  | k + 1 => if (l.getD k default).th = t then (k : Int) else lastI l t k
def cndP (l : List Ev) (e : Ev) (i : Nat) : Bool :=
  !decide ((l.getD i default).th = e.th) && depE (l.getD i default) e && decide ((lastE l e.th).getD (thN l i) 0 < (cn l (i + 1) (thN l i) : Int))
def knownD (l : List Ev) (t : Int) (i : Nat) : Bool := decide (0 ≤ lastI l t l.length) && decide ((i : Int) ≤ lastI l t l.length) && ordB l (lastI l t l.length).toNat i
def cndD (l : List Ev) (e : Ev) (i : Nat) : Bool := !decide ((l.getD i default).th = e.th) && depR (l.getD i default) e && !knownD l e.th i
theorem last_cases (l : List Ev) (t : Int) : ∀ k : Nat, k ≤ l.length →
    (lastI l t k = -1 ∧ lastU l t k = [0, 0, 0, 0] ∧ ∀ j, j < k → (l.getD j default).th ≠ t) ∨
    ∃ m, m < k ∧ lastI l t k = (m : Int) ∧ (l.getD m default).th = t ∧ lastU l t k = (clkU l l.length).getD m [] ∧ ∀ j, m < j → j < k → (l.getD j default).th ≠ t
  | 0, _ => .inl ⟨rfl, rfl, fun j h => by omega⟩
  | k + 1, h => by
    by_cases e : (l.getD k default).th = t
    · exact .inr ⟨k, by omega, by rw [lastI, if_pos e], e, by rw [lastU, if_pos e], fun j h1 h2 => by omega⟩
    · rcases last_cases l t k (by omega) with ⟨h1, h2, h3⟩ | ⟨m, h1, h2, h3, h4, h5⟩
      · refine .inl ⟨by rw [lastI, if_neg e, h1], by rw [lastU, if_neg e, h2], fun j hj => ?_⟩
        by_cases hk : j = k
        · subst hk; exact e
        · exact h3 j (by omega)
      · refine .inr ⟨m, by omega, by rw [lastI, if_neg e, h2], h3, by rw [lastU, if_neg e, h4], fun j hj1 hj2 => ?_⟩
        by_cases hk : j = k
        · subst hk; exact e
        · exact h5 j hj1 (by omega)
theorem zero4 (j : Nat) : ([0, 0, 0, 0] : List Int).getD j 0 = 0 := by
  match j with
  | 0 | 1 | 2 | 3 => rfl
  | j + 4 => simp [List.getD]
/-- Known: by the last one of the thread. -/
theorem known_eq {l : List Ev} (h : AllR l) (t : Int) {i : Nat} (hi : i < l.length) (hne : (l.getD i default).th ≠ t) :
    decide ((lastE l t).getD (thN l i) 0 < (cn l (i + 1) (thN l i) : Int)) = !knownD l t i := by
  have hp := cn_pos h hi
  unfold lastE knownD
  rw [if_pos h]
  rcases last_cases l t l.length (Nat.le_refl _) with ⟨h1, h2, h3⟩ | ⟨m, h1, h2, h3, h4, h5⟩
  · rw [h1, h2, zero4, decide_eq_true (by omega)]
    rfl
  · rw [h2, h4]
    have hk : ((clkU l l.length).getD m []).getD (thN l i) 0 = ck l m (thN l i) := rfl
    rw [hk]
    simp only [Int.toNat_natCast]
    rw [ord_hb h m h1 i hi]
    unfold hbf
    by_cases him : i ≤ m
    · have e1 : decide ((0 : Int) ≤ (m : Int)) = true := decide_eq_true (by omega)
      have e2 : decide ((i : Int) ≤ (m : Int)) = true := decide_eq_true (by omega)
      rw [e1, e2, decide_eq_true him, Bool.eq_iff_iff]
      simp only [Bool.true_and, Bool.and_true, decide_eq_true_eq, Bool.not_eq_true', decide_eq_false_iff_not]
      omega
    · have e2 : decide ((i : Int) ≤ (m : Int)) = false := decide_eq_false (by omega)
      have a1 := ck_le h m h1 (thN l i)
      have a2 := cn_mono h (thN l i) (i := m + 1) (k := i) (by omega) (by omega)
      have a3 := cn_succ h hi (thN l i)
      rw [if_pos rfl] at a3
      rw [e2, decide_eq_true (by omega)]
      simp
theorem cnd_eq {l : List Ev} (h : AllR l) (e : Ev) {i : Nat} (hi : i < l.length) : cndP l e i = cndD l e i := by
  unfold cndP cndD
  rw [dep_eq]
  by_cases hne : (l.getD i default).th = e.th
  · rw [decide_eq_true hne]; rfl
  · rw [known_eq h e.th hi hne]
/-- A race. -/
structure Rc where
  pl : Int
  th : Int
deriving DecidableEq, Inhabited
def rcC (r : Rc) : List D := [.v (.int .i64 r.pl), .v (.int .i64 r.th)]
def rcsC (l : List Rc) : List (List D) := l.map rcC
@[go_sem] theorem rcsC_length (l : List Rc) : (rcsC l).length = l.length := by simp [rcsC]
@[go_sem] theorem rcsC_get (l : List Rc) (n : Nat) (h : n < l.length) : (rcsC l).getD n [] = rcC (l.getD n default) := by simp [rcsC, List.getD, h]
@[go_sem] theorem rcC_len (e : Rc) : (rcC e).length = 2 := rfl
@[go_sem] theorem rcC_get0 (e : Rc) : (rcC e).getD 0 default = .v (.int .i64 e.pl) := rfl
@[go_sem] theorem rcC_get1 (e : Rc) : (rcC e).getD 1 default = .v (.int .i64 e.th) := rfl
@[go_sem] theorem rcC_drop1 (e : Rc) : (rcC e).drop 1 = [.v (.int .i64 e.th)] := rfl
@[go_sem] theorem rcC_take2 (e : Rc) : (rcC e).take 2 = rcC e := rfl
@[go_sem] theorem rcC_one (e : Rc) : (rcC e).all D.one = true := rfl
@[go_sem] theorem rcC_flat (e : Rc) : (rcC e).map D.flat = rcC e := rfl
@[go_sem] theorem rcC_flat0 (e : Rc) : (rcC e).map D.flat0 = rcC e := rfl
@[go_sem] theorem rcC_eq (a b : Rc) : eqCells [.int .i64, .int .i64] (rcC a) (rcC b) = some (decide (a = b)) := by
  obtain ⟨a0, a1⟩ := a
  obtain ⟨b0, b1⟩ := b
  simp only [rcC, eqCells, eqCell, if_true, Option.some.injEq, Rc.mk.injEq]
  rw [Bool.eq_iff_iff]
  simp
theorem rcsC_all (l : List Rc) : ∀ ds ∈ rcsC l, ds.length = 2 := by intro ds h; simp only [rcsC, List.mem_map] at h; obtain ⟨n, _, rfl⟩ := h; rfl
theorem rcsC_snoc (l : List Rc) (n : Rc) : rcsC (l ++ [n]) = rcsC l ++ [rcC n] := by simp [rcsC]
theorem rcsC_app (l m : List Rc) : rcsC (l ++ m) = rcsC l ++ rcsC m := by simp [rcsC]

def wiP (l : List Ev) (e : Ev) (k : Nat) : List Nat := (List.range k).filter (cndP l e)
def wiD (l : List Ev) (e : Ev) (k : Nat) : List Nat := (List.range k).filter (cndD l e)
theorem wiP_succ (l : List Ev) (e : Ev) (k : Nat) : wiP l e (k + 1) = if cndP l e k then wiP l e k ++ [k] else wiP l e k := by
  unfold wiP
  rw [List.range_succ, List.filter_append]
  cases h : cndP l e k <;> simp [h]
theorem wiD_succ (l : List Ev) (e : Ev) (k : Nat) : wiD l e (k + 1) = if cndD l e k then wiD l e k ++ [k] else wiD l e k := by
  unfold wiD
  rw [List.range_succ, List.filter_append]
  cases h : cndD l e k <;> simp [h]
theorem wi_eq {l : List Ev} (h : AllR l) (e : Ev) : wiP l e l.length = wiD l e l.length :=
  List.filter_congr fun i hi => cnd_eq h e (List.mem_range.1 hi)
theorem wiP_len (l : List Ev) (e : Ev) (k : Nat) : (wiP l e k).length ≤ k := Nat.le_trans (List.length_filter_le _ _) (by rw [List.length_range]; exact Nat.le_refl _)
theorem wiD_len (l : List Ev) (e : Ev) (k : Nat) : (wiD l e k).length ≤ k := Nat.le_trans (List.length_filter_le _ _) (by rw [List.length_range]; exact Nat.le_refl _)
def rcK (t : Int) (l : List Nat) : List Rc := l.map fun i : Nat => ⟨(i : Int), t⟩
theorem rcK_snoc (t : Int) (l : List Nat) (i : Nat) : rcK t (l ++ [i]) = rcK t l ++ [⟨(i : Int), t⟩] := by simp [rcK]
theorem rcK_len (t : Int) (l : List Nat) : (rcK t l).length = l.length := by simp [rcK]
/-- The races of a row with what a thread does next. -/
def racP (l : List Ev) (e : Ev) : List Rc := rcK e.th (wiP l e l.length)
theorem racP_len (l : List Ev) (e : Ev) : (racP l e).length ≤ l.length := by unfold racP; rw [rcK_len]; exact wiP_len _ _ _
/-- The races within a row, of the first `k`. -/
def revP (l : List Ev) (k : Nat) : List Rc := (List.range k).flatMap fun j => racP (l.take j) (l.getD j default)
def revE (l : List Ev) : List Rc := if l.all rightR then revP l l.length else []
theorem revP_succ (l : List Ev) (k : Nat) : revP l (k + 1) = revP l k ++ racP (l.take k) (l.getD k default) := by
  unfold revP
  rw [List.range_succ, List.flatMap_append]
  simp
theorem revP_len (l : List Ev) : ∀ k, (revP l k).length ≤ k * l.length
  | 0 => by simp [revP]
  | k + 1 => by
    have h1 := revP_len l k
    have h2 := racP_len (l.take k) (l.getD k default)
    rw [List.length_take] at h2
    rw [revP_succ, List.length_append, Nat.add_mul]
    omega
end Go.Proofs.Ytobdagjdhgjplaa
