/-
  Contracts: programs, instructions, what may be.
-/
import Derived.Test.YtobdagjdhgjplaaBase
set_option linter.unusedSimpArgs false
set_option linter.unusedVariables false
namespace Go.Proofs.Ytobdagjdhgjplaa
open Go Go.Sn Go.RowKit

structure In where
  kd : Int
  r : Int
  x : Int
  n : Int
deriving DecidableEq, Inhabited
structure Pg where
  vs : Int
  ms : Int
  th : List (List In)
deriving DecidableEq, Inhabited

def inC (i : In) : List D := [.v (.int .i64 i.kd), .v (.int .i64 i.r), .v (.int .i64 i.x), .v (.int .i64 i.n)]
def insC (l : List In) : List (List D) := l.map inC
def thsC (l : List (List In)) : List (List D) := l.map fun c => [.list (insC c)]
def pgC (p : Pg) : List D := [.v (.int .i64 p.vs), .v (.int .i64 p.ms), .list (thsC p.th)]


@[go_sem] theorem insC_length (l : List In) : (insC l).length = l.length := by simp [insC]
@[go_sem] theorem thsC_length (l : List (List In)) : (thsC l).length = l.length := by simp [thsC]
@[go_sem] theorem insC_get (l : List In) (n : Nat) (h : n < l.length) : (insC l).getD n [] = inC (l.getD n default) := by simp [insC, List.getD, h]
@[go_sem] theorem thsC_get (l : List (List In)) (n : Nat) (h : n < l.length) : (thsC l).getD n [] = [.list (insC (l.getD n []))] := by simp [thsC, List.getD, h]
@[go_sem] theorem inC_len (e : In) : (inC e).length = 4 := rfl
@[go_sem] theorem inC_get0 (e : In) : (inC e).getD 0 default = .v (.int .i64 e.kd) := rfl
@[go_sem] theorem inC_get1 (e : In) : (inC e).getD 1 default = .v (.int .i64 e.r) := rfl
@[go_sem] theorem inC_get2 (e : In) : (inC e).getD 2 default = .v (.int .i64 e.x) := rfl
@[go_sem] theorem inC_get3 (e : In) : (inC e).getD 3 default = .v (.int .i64 e.n) := rfl
@[go_sem] theorem inC_drop1 (e : In) : (inC e).drop 1 = [.v (.int .i64 e.r), .v (.int .i64 e.x), .v (.int .i64 e.n)] := rfl
@[go_sem] theorem inC_drop2 (e : In) : (inC e).drop 2 = [.v (.int .i64 e.x), .v (.int .i64 e.n)] := rfl
@[go_sem] theorem inC_drop3 (e : In) : (inC e).drop 3 = [.v (.int .i64 e.n)] := rfl
@[go_sem] theorem inC_take4 (e : In) : (inC e).take 4 = inC e := rfl
@[go_sem] theorem inC_one (e : In) : (inC e).all D.one = true := rfl
@[go_sem] theorem inC_flat (e : In) : (inC e).map D.flat = inC e := rfl
@[go_sem] theorem inC_flat0 (e : In) : (inC e).map D.flat0 = inC e := rfl
@[go_sem] theorem inC_eq (a b : In) : eqCells [.int .i64, .int .i64, .int .i64, .int .i64] (inC a) (inC b) = some (decide (a = b)) := by
  obtain ⟨a1, a2, a3, a4⟩ := a
  obtain ⟨b1, b2, b3, b4⟩ := b
  simp only [inC, eqCells, eqCell, if_true, Bool.and_true]
  congr 1
  rw [Bool.eq_iff_iff]
  simp
@[go_sem] theorem pgC_len (p : Pg) : (pgC p).length = 3 := rfl
@[go_sem] theorem pgC_get0 (e : Pg) : (pgC e).getD 0 default = .v (.int .i64 e.vs) := rfl
@[go_sem] theorem pgC_get1 (e : Pg) : (pgC e).getD 1 default = .v (.int .i64 e.ms) := rfl
@[go_sem] theorem pgC_get2 (e : Pg) : (pgC e).getD 2 default = .list (thsC e.th) := rfl
@[go_sem] theorem pgC_drop1 (e : Pg) : (pgC e).drop 1 = [.v (.int .i64 e.ms), .list (thsC e.th)] := rfl
@[go_sem] theorem pgC_drop2 (e : Pg) : (pgC e).drop 2 = [.list (thsC e.th)] := rfl
@[go_sem] theorem pgC_take2 (e : Pg) : (pgC e).take 2 = [.v (.int .i64 e.vs), .v (.int .i64 e.ms)] := rfl
@[go_sem] theorem pgC_drop3 (e : Pg) : (pgC e).drop 3 = [] := rfl
@[go_sem] theorem inC_drop4 (e : In) : (inC e).drop 4 = [] := rfl
@[go_sem] theorem pgC_take3 (e : Pg) : (pgC e).take 3 = pgC e := rfl
@[go_sem] theorem pgC_one (e : Pg) : (pgC e).all D.one = true := rfl
@[go_sem] theorem pgC_flat (e : Pg) : (pgC e).map D.flat = pgC e := rfl
@[go_sem] theorem pgC_flat0 (e : Pg) : (pgC e).map D.flat0 = pgC e := rfl

theorem insC_all (l : List In) : ∀ ds ∈ insC l, ds.length = 4 := by intro ds h; simp only [insC, List.mem_map] at h; obtain ⟨n, _, rfl⟩ := h; rfl
theorem insC_snoc (l : List In) (i : In) : insC (l ++ [i]) = insC l ++ [inC i] := by simp [insC]
theorem thsC_all (l : List (List In)) : ∀ ds ∈ thsC l, ds.length = 1 := by intro ds h; simp only [thsC, List.mem_map] at h; obtain ⟨n, _, rfl⟩ := h; rfl
theorem thsC_snoc (l : List (List In)) (i : List In) : thsC (l ++ [i]) = thsC l ++ [[.list (insC i)]] := by simp [thsC]
@[go_sem] theorem thsC_take (l : List (List In)) (n : Nat) : (thsC l).take n = thsC (l.take n) := by simp [thsC, List.map_take]

theorem within_call (W : World) (H : Heap) (n lo hi : Int) :
    CallA Try.prog W 84 [.v (.int .i64 n), .v (.int .i64 lo), .v (.int .i64 hi)] H fun r H' => r = .v (.bool (decide (lo ≤ n) && decide (n ≤ hi))) ∧ H' = H := by
  refine call_in Try.func84 rfl Try.ntmps84 (by simp) ?_
  repeat' (first
    | (with_reducible apply run_seq)
    | (with_reducible apply run_block)
    | (with_reducible apply run_inBlock)
    | (with_reducible apply run_skip)
    | (with_reducible apply run_exit rfl)
    | ((with_reducible apply run_go); simp only [go_sem, *])
    | ((with_reducible apply runO_skipF); (focus (simp only [go_sem, *]; rfl)); (focus rfl); (with_reducible apply runO_go); simp only [go_sem, *])
    | ((first | (with_reducible apply runA_and) | (with_reducible apply runO_and) | (with_reducible apply runD_and)); (focus (first | assumption | (simp only [go_sem, *]; done) | (simp only [go_sem, *]; assumption))); (try simp only [go_sem, *]))
    | ((with_reducible apply run_ret Try.func84 res84 (H' := H)); (focus (simp only [go_sem, *]; rfl)); (focus trivial); (focus (repeat (first | assumption | exact Heap.sub_refl _ | refine Heap.sub_congr ?_ | refine Heap.sub_set ?_ (by assumption) | refine Heap.sub_set2 ?_ (by first | assumption | (simp only [*]; done) | (simp only [Heap.set_none', ne_eq, *, not_false_eq_true, and_self]; done)))))))
  exact ⟨rfl, rfl⟩
theorem withinR_call (W : World) (H : Heap) (n lo hi : Int) :
    CallA Try.prog W 90 [.v (.int .i64 n), .v (.int .i64 lo), .v (.int .i64 hi)] H fun r H' => r = .v (.bool (decide (lo ≤ n) && decide (n ≤ hi))) ∧ H' = H := by
  refine call_in Try.func90 rfl Try.ntmps90 (by simp) ?_
  repeat' (first
    | (with_reducible apply run_seq)
    | (with_reducible apply run_block)
    | (with_reducible apply run_inBlock)
    | (with_reducible apply run_skip)
    | (with_reducible apply run_exit rfl)
    | ((with_reducible apply run_go); simp only [go_sem, *])
    | ((with_reducible apply runO_skipF); (focus (simp only [go_sem, *]; rfl)); (focus rfl); (with_reducible apply runO_go); simp only [go_sem, *])
    | ((first | (with_reducible apply runA_and) | (with_reducible apply runO_and) | (with_reducible apply runD_and)); (focus (first | assumption | (simp only [go_sem, *]; done) | (simp only [go_sem, *]; assumption))); (try simp only [go_sem, *]))
    | ((with_reducible apply run_ret Try.func90 res90 (H' := H)); (focus (simp only [go_sem, *]; rfl)); (focus trivial); (focus (repeat (first | assumption | exact Heap.sub_refl _ | refine Heap.sub_congr ?_ | refine Heap.sub_set ?_ (by assumption) | refine Heap.sub_set2 ?_ (by first | assumption | (simp only [*]; done) | (simp only [Heap.set_none', ne_eq, *, not_false_eq_true, and_self]; done)))))))
  exact ⟨rfl, rfl⟩

/-- An instruction of a thread of `n` may be. -/
def insR (v m n : Int) (i : In) : Bool :=
  decide (1 ≤ i.kd ∧ i.kd ≤ 8 ∧ 0 ≤ i.r ∧ i.r ≤ 1 ∧ 0 ≤ i.x ∧ (i.kd = 1 ∨ i.kd = 2 → i.x ≤ v - 1) ∧ (i.kd = 5 ∨ i.kd = 6 → i.x ≤ m - 1 ∧ i.r = 0) ∧ (i.kd = 7 → i.x ≤ n) ∧
    (i.kd = 3 ∨ i.kd = 4 ∨ i.kd = 8 → i.x = 0) ∧ (i.kd = 3 ∨ i.kd = 4 → -128 ≤ i.n ∧ i.n ≤ 127) ∧ (¬ (i.kd = 3 ∨ i.kd = 4) → i.n = 0))

set_option maxHeartbeats 4000000 in
theorem instr_call (W : World) (H : Heap) (b : Nat) (e : Nat) (p : Pg) (n : Int) (i : In) (hb : H b = some (.cells (pgC p) e)) (h1 : 0 ≤ p.vs ∧ p.vs ≤ 4) (h2 : 0 ≤ p.ms ∧ p.ms ≤ 2) (h3 : 0 ≤ n ∧ n ≤ 1000000) :
    CallA Try.prog W 86 [.v (.pointer (some ⟨b, 0, none⟩)), .v (.int .i64 n), .agg (inC i)] H fun r H' => r = .v (.bool (insR p.vs p.ms n i)) ∧ H' = H := by
  refine call_in Try.func86 rfl Try.ntmps86 (by simp) ?_
  have w1 : IntKind.i64.wrap (p.vs - 1) = p.vs - 1 := wrapP (by omega) (by omega)
  have w2 : IntKind.i64.wrap (p.ms - 1) = p.ms - 1 := wrapP (by omega) (by omega)
  have w3 : IntKind.i64.wrap (n + 1) = n + 1 := wrapP (by omega) (by omega)
  have w4 : IntKind.i64.wrap (n + 1 - 1) = n := by rw [wrapP (by omega) (by omega)]; omega
  clear h1 h2 h3
  repeat' (first
    | (with_reducible apply run_seq)
    | (with_reducible apply run_block)
    | (with_reducible apply run_inBlock)
    | (with_reducible apply run_skip)
    | (with_reducible apply run_exit rfl)
    | ((with_reducible apply run_go); simp only [go_sem, *])
    | ((with_reducible apply run_cond_t); (focus (simp only [go_sem, *]; done)))
    | ((with_reducible apply run_cond_f); (focus (simp only [go_sem, *]; done)))
    | ((with_reducible apply run_cond); (focus (simp only [go_sem, *]; rfl)); (all_goals intro _))
    | ((with_reducible apply runO_box); (focus (simp only [go_sem, *]; done)); intro pb hpb; have hfb := Heap.ne_of_none hpb; (try simp only [Heap.set_none'] at hpb); (with_reducible apply runO_go); simp only [go_sem, *])
    | ((with_reducible apply runO_skipF); (focus (simp only [go_sem, *]; rfl)); (focus rfl); (with_reducible apply runO_go); simp only [go_sem, *])
    | ((first | (with_reducible apply runA_and) | (with_reducible apply runO_and) | (with_reducible apply runD_and)); (focus (first | assumption | (simp only [go_sem, *]; done) | (simp only [go_sem, *]; assumption))); (try simp only [go_sem, *]))
    | ((with_reducible apply runO_callF known84); simp only [go_sem, *]; refine (within_call W _ _ _ _).use ?_; (with_reducible apply runO_go); simp only [go_sem, *])
    | ((with_reducible apply runO_callFG known84); (focus (simp only [go_sem, *]; rfl)); (focus (intro _; simp only [go_sem, *]; exact within_call W _ _ _ _)); (with_reducible apply runO_go); simp only [go_sem, *])
    | ((with_reducible apply run_ret Try.func86 res86 (H' := H)); (focus (simp only [go_sem, *]; rfl)); (focus trivial); (focus (repeat (first | assumption | exact Heap.sub_refl _ | refine Heap.sub_congr ?_ | refine Heap.sub_set ?_ (by assumption) | refine Heap.sub_set2 ?_ (by first | assumption | (simp only [*]; done) | (simp only [Heap.set_none', ne_eq, *, not_false_eq_true, and_self]; done)))))))
  all_goals (refine ⟨vb ?_, rfl⟩; unfold insR; rw [Bool.eq_iff_iff]; simp only [Bool.or_eq_true, Bool.or_eq_false_iff, Bool.and_eq_true, Bool.and_eq_false_iff, decide_eq_true_eq, decide_eq_false_iff_not, Bool.not_eq_true', Bool.not_eq_false', Bool.false_eq_true, Bool.not_eq_true, true_iff, false_iff, iff_true, iff_false] at *; omega)

set_option maxHeartbeats 4000000 in
theorem instrR_call (W : World) (H : Heap) (p : Pg) (n : Int) (i : In) (h1 : 0 ≤ p.vs ∧ p.vs ≤ 4) (h2 : 0 ≤ p.ms ∧ p.ms ≤ 2) :
    CallA Try.prog W 91 [.agg (pgC p), .v (.int .i64 n), .agg (inC i)] H fun r H' => r = .v (.bool (insR p.vs p.ms n i)) ∧ H' = H := by
  refine call_in Try.func91 rfl Try.ntmps91 (by simp) ?_
  have w1 : IntKind.i64.wrap (p.vs - 1) = p.vs - 1 := wrapP (by omega) (by omega)
  have w2 : IntKind.i64.wrap (p.ms - 1) = p.ms - 1 := wrapP (by omega) (by omega)
  clear h1 h2
  repeat' (first
    | (with_reducible apply run_seq)
    | (with_reducible apply run_block)
    | (with_reducible apply run_inBlock)
    | (with_reducible apply run_skip)
    | (with_reducible apply run_exit rfl)
    | ((with_reducible apply run_go); simp only [go_sem, *])
    | ((with_reducible apply run_cond_t); (focus (simp only [go_sem, *]; done)))
    | ((with_reducible apply run_cond_f); (focus (simp only [go_sem, *]; done)))
    | ((with_reducible apply run_cond); (focus (simp only [go_sem, *]; rfl)); (all_goals intro _))
    | ((with_reducible apply runO_box); (focus (simp only [go_sem, *]; done)); intro pb hpb; have hfb := Heap.ne_of_none hpb; (try simp only [Heap.set_none'] at hpb); (with_reducible apply runO_go); simp only [go_sem, *])
    | ((with_reducible apply runO_skipF); (focus (simp only [go_sem, *]; rfl)); (focus rfl); (with_reducible apply runO_go); simp only [go_sem, *])
    | ((first | (with_reducible apply runA_and) | (with_reducible apply runO_and) | (with_reducible apply runD_and)); (focus (first | assumption | (simp only [go_sem, *]; done) | (simp only [go_sem, *]; assumption))); (try simp only [go_sem, *]))
    | ((with_reducible apply runO_callF known90); simp only [go_sem, *]; refine (withinR_call W _ _ _ _).use ?_; (with_reducible apply runO_go); simp only [go_sem, *])
    | ((with_reducible apply runO_callFG known90); (focus (simp only [go_sem, *]; rfl)); (focus (intro _; simp only [go_sem, *]; exact withinR_call W _ _ _ _)); (with_reducible apply runO_go); simp only [go_sem, *])
    | ((with_reducible apply run_ret Try.func91 res91 (H' := H)); (focus (simp only [go_sem, *]; rfl)); (focus trivial); (focus (repeat (first | assumption | exact Heap.sub_refl _ | refine Heap.sub_congr ?_ | refine Heap.sub_set ?_ (by assumption) | refine Heap.sub_set2 ?_ (by first | assumption | (simp only [*]; done) | (simp only [Heap.set_none', ne_eq, *, not_false_eq_true, and_self]; done)))))))
  all_goals (refine ⟨vb ?_, rfl⟩; unfold insR; rw [Bool.eq_iff_iff]; simp only [Bool.or_eq_true, Bool.or_eq_false_iff, Bool.and_eq_true, Bool.and_eq_false_iff, decide_eq_true_eq, decide_eq_false_iff_not, Bool.not_eq_true', Bool.not_eq_false', Bool.false_eq_true, Bool.not_eq_true, true_iff, false_iff, iff_true, iff_false] at *; omega)
end Go.Proofs.Ytobdagjdhgjplaa
