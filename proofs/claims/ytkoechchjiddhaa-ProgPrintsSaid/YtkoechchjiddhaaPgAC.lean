/-
  Several texts in one: PgA, PgB, PgC.
-/
import Derived.Test.YtkoechchjiddhaaBase
set_option linter.unusedSimpArgs false
set_option linter.unusedVariables false
namespace Go.Proofs.Ytkoechchjiddhaa
open Go Go.Sn Go.RowKit

structure In where
  kd : Int
  r : Int
  x : Int
  n : Int
deriving DecidableEq, Inhabited
structure Pg where
  vs : Int
  ms : Int
  th : List (List In)
deriving DecidableEq, Inhabited

def inC (i : In) : List D := [.v (.int .i64 i.kd), .v (.int .i64 i.r), .v (.int .i64 i.x), .v (.int .i64 i.n)]
def insC (l : List In) : List (List D) := l.map inC
def thsC (l : List (List In)) : List (List D) := l.map fun c => [.list (insC c)]
def pgC (p : Pg) : List D := [.v (.int .i64 p.vs), .v (.int .i64 p.ms), .list (thsC p.th)]


@[go_sem] theorem insC_length (l : List In) : (insC l).length = l.length := by simp [insC]
@[go_sem] theorem thsC_length (l : List (List In)) : (thsC l).length = l.length := by simp [thsC]
@[go_sem] theorem insC_get (l : List In) (n : Nat) (h : n < l.length) : (insC l).getD n [] = inC (l.getD n default) := by simp [insC, List.getD, h]
@[go_sem] theorem thsC_get (l : List (List In)) (n : Nat) (h : n < l.length) : (thsC l).getD n [] = [.list (insC (l.getD n []))] := by simp [thsC, List.getD, h]
@[go_sem] theorem inC_len (e : In) : (inC e).length = 4 := rfl
@[go_sem] theorem inC_get0 (e : In) : (inC e).getD 0 default = .v (.int .i64 e.kd) := rfl
@[go_sem] theorem inC_get1 (e : In) : (inC e).getD 1 default = .v (.int .i64 e.r) := rfl
@[go_sem] theorem inC_get2 (e : In) : (inC e).getD 2 default = .v (.int .i64 e.x) := rfl
@[go_sem] theorem inC_get3 (e : In) : (inC e).getD 3 default = .v (.int .i64 e.n) := rfl
@[go_sem] theorem inC_drop1 (e : In) : (inC e).drop 1 = [.v (.int .i64 e.r), .v (.int .i64 e.x), .v (.int .i64 e.n)] := rfl
@[go_sem] theorem inC_drop2 (e : In) : (inC e).drop 2 = [.v (.int .i64 e.x), .v (.int .i64 e.n)] := rfl
@[go_sem] theorem inC_drop3 (e : In) : (inC e).drop 3 = [.v (.int .i64 e.n)] := rfl
@[go_sem] theorem inC_take4 (e : In) : (inC e).take 4 = inC e := rfl
@[go_sem] theorem inC_one (e : In) : (inC e).all D.one = true := rfl
@[go_sem] theorem inC_flat (e : In) : (inC e).map D.flat = inC e := rfl
@[go_sem] theorem inC_flat0 (e : In) : (inC e).map D.flat0 = inC e := rfl
@[go_sem] theorem inC_eq (a b : In) : eqCells [.int .i64, .int .i64, .int .i64, .int .i64] (inC a) (inC b) = some (decide (a = b)) := by
  obtain ⟨a1, a2, a3, a4⟩ := a
  obtain ⟨b1, b2, b3, b4⟩ := b
  simp only [inC, eqCells, eqCell, if_true, Bool.and_true]
  congr 1
  rw [Bool.eq_iff_iff]
  simp
@[go_sem] theorem pgC_len (p : Pg) : (pgC p).length = 3 := rfl
@[go_sem] theorem pgC_get0 (e : Pg) : (pgC e).getD 0 default = .v (.int .i64 e.vs) := rfl
@[go_sem] theorem pgC_get1 (e : Pg) : (pgC e).getD 1 default = .v (.int .i64 e.ms) := rfl
@[go_sem] theorem pgC_get2 (e : Pg) : (pgC e).getD 2 default = .list (thsC e.th) := rfl
@[go_sem] theorem pgC_drop1 (e : Pg) : (pgC e).drop 1 = [.v (.int .i64 e.ms), .list (thsC e.th)] := rfl
@[go_sem] theorem pgC_drop2 (e : Pg) : (pgC e).drop 2 = [.list (thsC e.th)] := rfl
@[go_sem] theorem pgC_take2 (e : Pg) : (pgC e).take 2 = [.v (.int .i64 e.vs), .v (.int .i64 e.ms)] := rfl
@[go_sem] theorem pgC_drop3 (e : Pg) : (pgC e).drop 3 = [] := rfl
@[go_sem] theorem inC_drop4 (e : In) : (inC e).drop 4 = [] := rfl
@[go_sem] theorem pgC_take3 (e : Pg) : (pgC e).take 3 = pgC e := rfl
@[go_sem] theorem pgC_one (e : Pg) : (pgC e).all D.one = true := rfl
@[go_sem] theorem pgC_flat (e : Pg) : (pgC e).map D.flat = pgC e := rfl
@[go_sem] theorem pgC_flat0 (e : Pg) : (pgC e).map D.flat0 = pgC e := rfl

theorem insC_all (l : List In) : ∀ ds ∈ insC l, ds.length = 4 := by intro ds h; simp only [insC, List.mem_map] at h; obtain ⟨n, _, rfl⟩ := h; rfl
theorem insC_snoc (l : List In) (i : In) : insC (l ++ [i]) = insC l ++ [inC i] := by simp [insC]
theorem thsC_all (l : List (List In)) : ∀ ds ∈ thsC l, ds.length = 1 := by intro ds h; simp only [thsC, List.mem_map] at h; obtain ⟨n, _, rfl⟩ := h; rfl
theorem thsC_snoc (l : List (List In)) (i : List In) : thsC (l ++ [i]) = thsC l ++ [[.list (insC i)]] := by simp [thsC]
@[go_sem] theorem thsC_take (l : List (List In)) (n : Nat) : (thsC l).take n = thsC (l.take n) := by simp [thsC, List.map_take]

theorem within_call (W : World) (H : Heap) (n lo hi : Int) :
    CallA Try.prog W 22 [.v (.int .i64 n), .v (.int .i64 lo), .v (.int .i64 hi)] H fun r H' => r = .v (.bool (decide (lo ≤ n) && decide (n ≤ hi))) ∧ H' = H := by
  refine call_in Try.func22 rfl Try.ntmps22 (by simp) ?_
  repeat' (first
    | (with_reducible apply run_seq)
    | ((with_reducible apply run_go); simp only [go_sem, *])
    | ((with_reducible apply run_ret Try.func22 res22 (H' := H)); (focus (simp only [go_sem, *]; rfl)); (focus trivial); (focus (repeat (first | assumption | exact Heap.sub_refl _ | refine Heap.sub_congr ?_ | refine Heap.sub_set ?_ (by assumption) | refine Heap.sub_set2 ?_ (by first | assumption | (simp only [*]; done) | (simp only [Heap.set_none', ne_eq, *, not_false_eq_true, and_self]; done)))))))
  exact ⟨rfl, rfl⟩
theorem withinR_call (W : World) (H : Heap) (n lo hi : Int) :
    CallA Try.prog W 20 [.v (.int .i64 n), .v (.int .i64 lo), .v (.int .i64 hi)] H fun r H' => r = .v (.bool (decide (lo ≤ n) && decide (n ≤ hi))) ∧ H' = H := by
  refine call_in Try.func20 rfl Try.ntmps20 (by simp) ?_
  repeat' (first
    | (with_reducible apply run_seq)
    | ((with_reducible apply run_go); simp only [go_sem, *])
    | ((with_reducible apply run_ret Try.func20 res20 (H' := H)); (focus (simp only [go_sem, *]; rfl)); (focus trivial); (focus (repeat (first | assumption | exact Heap.sub_refl _ | refine Heap.sub_congr ?_ | refine Heap.sub_set ?_ (by assumption) | refine Heap.sub_set2 ?_ (by first | assumption | (simp only [*]; done) | (simp only [Heap.set_none', ne_eq, *, not_false_eq_true, and_self]; done)))))))
  exact ⟨rfl, rfl⟩

/-- An instruction of a thread of `n` may be. -/
def insR (v m n : Int) (i : In) : Bool :=
  decide (1 ≤ i.kd ∧ i.kd ≤ 8 ∧ 0 ≤ i.r ∧ i.r ≤ 1 ∧ 0 ≤ i.x ∧ (i.kd = 1 ∨ i.kd = 2 → i.x ≤ v - 1) ∧ (i.kd = 5 ∨ i.kd = 6 → i.x ≤ m - 1 ∧ i.r = 0) ∧ (i.kd = 7 → i.x ≤ n) ∧
    (i.kd = 3 ∨ i.kd = 4 ∨ i.kd = 8 → i.x = 0) ∧ (i.kd = 3 ∨ i.kd = 4 → -128 ≤ i.n ∧ i.n ≤ 127) ∧ (¬ (i.kd = 3 ∨ i.kd = 4) → i.n = 0))

set_option maxHeartbeats 4000000 in
theorem instr_call (W : World) (H : Heap) (b : Nat) (e : Nat) (p : Pg) (n : Int) (i : In) (hb : H b = some (.cells (pgC p) e)) (h1 : 0 ≤ p.vs ∧ p.vs ≤ 4) (h2 : 0 ≤ p.ms ∧ p.ms ≤ 2) (h3 : 0 ≤ n ∧ n ≤ 1000000) :
    CallA Try.prog W 24 [.v (.pointer (some ⟨b, 0, none⟩)), .v (.int .i64 n), .agg (inC i)] H fun r H' => r = .v (.bool (insR p.vs p.ms n i)) ∧ H' = H := by
  refine call_in Try.func24 rfl Try.ntmps24 (by simp) ?_
  have w1 : IntKind.i64.wrap (p.vs - 1) = p.vs - 1 := wrapP (by omega) (by omega)
  have w2 : IntKind.i64.wrap (p.ms - 1) = p.ms - 1 := wrapP (by omega) (by omega)
  have w3 : IntKind.i64.wrap (n + 1) = n + 1 := wrapP (by omega) (by omega)
  have w4 : IntKind.i64.wrap (n + 1 - 1) = n := by rw [wrapP (by omega) (by omega)]; omega
  clear h1 h2 h3
  repeat' (first
    | (with_reducible apply run_seq)
    | (with_reducible apply run_block)
    | (with_reducible apply run_inBlock)
    | (with_reducible apply run_skip)
    | ((with_reducible apply run_go); simp only [go_sem, *])
    | ((with_reducible apply run_cond_t); (focus (simp only [go_sem, *]; done)))
    | ((with_reducible apply run_cond); (focus (simp only [go_sem, *]; rfl)); (all_goals intro _))
    | ((with_reducible apply runO_box); (focus (simp only [go_sem, *]; done)); intro pb hpb; have hfb := Heap.ne_of_none hpb; (try simp only [Heap.set_none'] at hpb); (with_reducible apply runO_go); simp only [go_sem, *])
    | ((with_reducible apply runO_callF known22); simp only [go_sem, *]; refine (within_call W _ _ _ _).use ?_; (with_reducible apply runO_go); simp only [go_sem, *])
    | ((with_reducible apply runO_callFG known22); (focus (simp only [go_sem, *]; rfl)); (focus (intro _; simp only [go_sem, *]; exact within_call W _ _ _ _)); (with_reducible apply runO_go); simp only [go_sem, *])
    | ((with_reducible apply run_ret Try.func24 res24 (H' := H)); (focus (simp only [go_sem, *]; rfl)); (focus trivial); (focus (repeat (first | assumption | exact Heap.sub_refl _ | refine Heap.sub_congr ?_ | refine Heap.sub_set ?_ (by assumption) | refine Heap.sub_set2 ?_ (by first | assumption | (simp only [*]; done) | (simp only [Heap.set_none', ne_eq, *, not_false_eq_true, and_self]; done)))))))
  all_goals (refine ⟨vb ?_, rfl⟩; unfold insR; rw [Bool.eq_iff_iff]; simp only [Bool.or_eq_true, Bool.or_eq_false_iff, Bool.and_eq_true, Bool.and_eq_false_iff, decide_eq_true_eq, decide_eq_false_iff_not, Bool.not_eq_true', Bool.not_eq_false', Bool.false_eq_true, Bool.not_eq_true, true_iff, false_iff, iff_true, iff_false] at *; omega)

set_option maxHeartbeats 4000000 in
theorem instrR_call (W : World) (H : Heap) (p : Pg) (n : Int) (i : In) (h1 : 0 ≤ p.vs ∧ p.vs ≤ 4) (h2 : 0 ≤ p.ms ∧ p.ms ≤ 2) :
    CallA Try.prog W 21 [.agg (pgC p), .v (.int .i64 n), .agg (inC i)] H fun r H' => r = .v (.bool (insR p.vs p.ms n i)) ∧ H' = H := by
  refine call_in Try.func21 rfl Try.ntmps21 (by simp) ?_
  have w1 : IntKind.i64.wrap (p.vs - 1) = p.vs - 1 := wrapP (by omega) (by omega)
  have w2 : IntKind.i64.wrap (p.ms - 1) = p.ms - 1 := wrapP (by omega) (by omega)
  clear h1 h2
  repeat' (first
    | (with_reducible apply run_seq)
    | (with_reducible apply run_block)
    | (with_reducible apply run_inBlock)
    | (with_reducible apply run_skip)
    | ((with_reducible apply run_go); simp only [go_sem, *])
    | ((with_reducible apply run_cond_t); (focus (simp only [go_sem, *]; done)))
    | ((with_reducible apply run_cond); (focus (simp only [go_sem, *]; rfl)); (all_goals intro _))
    | ((with_reducible apply runO_box); (focus (simp only [go_sem, *]; done)); intro pb hpb; have hfb := Heap.ne_of_none hpb; (try simp only [Heap.set_none'] at hpb); (with_reducible apply runO_go); simp only [go_sem, *])
    | ((with_reducible apply runO_callF known20); simp only [go_sem, *]; refine (withinR_call W _ _ _ _).use ?_; (with_reducible apply runO_go); simp only [go_sem, *])
    | ((with_reducible apply runO_callFG known20); (focus (simp only [go_sem, *]; rfl)); (focus (intro _; simp only [go_sem, *]; exact withinR_call W _ _ _ _)); (with_reducible apply runO_go); simp only [go_sem, *])
    | ((with_reducible apply run_ret Try.func21 res21 (H' := H)); (focus (simp only [go_sem, *]; rfl)); (focus trivial); (focus (repeat (first | assumption | exact Heap.sub_refl _ | refine Heap.sub_congr ?_ | refine Heap.sub_set ?_ (by assumption) | refine Heap.sub_set2 ?_ (by first | assumption | (simp only [*]; done) | (simp only [Heap.set_none', ne_eq, *, not_false_eq_true, and_self]; done)))))))
  all_goals (refine ⟨vb ?_, rfl⟩; unfold insR; rw [Bool.eq_iff_iff]; simp only [Bool.or_eq_true, Bool.or_eq_false_iff, Bool.and_eq_true, Bool.and_eq_false_iff, decide_eq_true_eq, decide_eq_false_iff_not, Bool.not_eq_true', Bool.not_eq_false', Bool.false_eq_true, Bool.not_eq_true, true_iff, false_iff, iff_true, iff_false] at *; omega)
end Go.Proofs.Ytkoechchjiddhaa
set_option linter.unusedSimpArgs false
set_option linter.unusedVariables false
namespace Go.Proofs.Ytkoechchjiddhaa
open Go Go.Sn Go.RowKit

def okVM (v m : Int) : Prop := (0 ≤ v ∧ v ≤ 4) ∧ (0 ≤ m ∧ m ≤ 2)

theorem wrong_call (W : World) (H : Heap) (pp pc e1 e2 : Nat) (p : Pg) (c : List In) (i : In) (h1 : H pp = some (.cells (pgC p) e1)) (h2 : H pc = some (.cells [.list (insC c)] e2)) (hv : okVM p.vs p.ms) (hc : c.length ≤ 1000000) :
    CallA Try.prog W 23 [.agg (inC i), .v (.pointer (some ⟨pp, 0, none⟩)), .v (.pointer (some ⟨pc, 0, none⟩))] H fun r H' => r = .v (.bool (!insR p.vs p.ms (c.length : Int) i)) ∧ H' = H := by
  refine call_in Try.func23 rfl Try.ntmps23 (by simp) ?_
  have hc2 : 0 ≤ (c.length : Int) ∧ (c.length : Int) ≤ 1000000 := by omega
  repeat' (first
    | (with_reducible apply run_seq)
    | ((with_reducible apply run_go); simp only [go_sem, *])
    | ((with_reducible apply runO_box); (focus (simp only [go_sem, *]; done)); intro pb hpb; have hfb := Heap.ne_of_none hpb; (try simp only [Heap.set_none'] at hpb); (with_reducible apply runO_go); simp only [go_sem, *])
    | ((with_reducible apply runO_callF known24); simp only [go_sem, *]; refine (instr_call W _ pp e1 p (c.length : Int) i (by simp only [go_sem, *]) hv.1 hv.2 hc2).use ?_; (with_reducible apply runO_go); simp only [go_sem, *])
    | ((with_reducible apply run_ret Try.func23 res23 (H' := H)); (focus (simp only [go_sem, *]; rfl)); (focus trivial); (focus (repeat (first | assumption | exact Heap.sub_refl _ | refine Heap.sub_congr ?_ | refine Heap.sub_set ?_ (by assumption) | refine Heap.sub_set2 ?_ (by first | assumption | (simp only [*]; done) | (simp only [Heap.set_none', ne_eq, *, not_false_eq_true, and_self]; done)))))))
  exact ⟨rfl, rfl⟩

/-- The place of the first that is not so. -/
def badG {α : Type} (p : α → Bool) (l : List α) : Int := if l.all p then -1 else ((l.findIdx fun e => !p e : Nat) : Int)
theorem badG_of {α : Type} [Inhabited α] {p : α → Bool} {l : List α} {k : Nat} (h : k < l.length) (ha : (l.take k).all p = true) (hk : p (l.getD k default) = false) : badG p l = (k : Int) := by
  rw [badG, if_neg (by rw [all_notG h hk]; simp)]
  congr 1
  rw [List.findIdx_eq h]
  refine ⟨by simpa [List.getD, h] using hk, fun j hj => ?_⟩
  have := List.all_eq_true.1 ha (l[j]'(by omega)) (List.mem_take_iff_getElem.2 ⟨j, by omega, rfl⟩)
  simp [this]

theorem indexI_call (W : World) (H : Heap) (pp pc e1 e2 : Nat) (p : Pg) (c : List In) (h1 : H pp = some (.cells (pgC p) e1)) (h2 : H pc = some (.cells [.list (insC c)] e2)) (hv : okVM p.vs p.ms) (hc : c.length ≤ 1000000) :
    CallA Try.prog W 31 [.list (insC c), .v (.func (.func 23) #[] #[.pointer (some ⟨pp, 0, none⟩), .pointer (some ⟨pc, 0, none⟩)])] H fun r H' =>
      r = .v (.int .i64 (badG (insR p.vs p.ms (c.length : Int)) c)) ∧ H' = H := by
  refine call_in Try.func31 rfl Try.ntmps31 (by simp) ?_
  generalize hq : insR p.vs p.ms (c.length : Int) = q
  have cw : ∀ i, CallA Try.prog W 23 [.agg (inC i), .v (.pointer (some ⟨pp, 0, none⟩)), .v (.pointer (some ⟨pc, 0, none⟩))] H fun r H' => r = .v (.bool (!q i)) ∧ H' = H := by
    intro i
    have := wrong_call W H pp pc e1 e2 p c i h1 h2 hv hc
    rw [hq] at this
    exact this
  clear hq h1 h2
  repeat' (first
    | (with_reducible apply run_seq)
    | (with_reducible apply run_block)
    | ((with_reducible apply run_go); simp only [go_sem, *]))
  refine run_loop (fun n e H' => ∃ k : Nat, k ≤ c.length ∧ n = c.length - k ∧ (c.take k).all q = true ∧ e 0 = .list (insC c) ∧ e 1 = .v (.func (.func 23) #[] #[.pointer (some ⟨pp, 0, none⟩), .pointer (some ⟨pc, 0, none⟩)]) ∧ e 7 = .v (.int .i64 (c.length : Int)) ∧ e 8 = .v (.int .i64 (k : Int)) ∧ H = H') c.length
      ⟨0, Nat.zero_le _, rfl, rfl, (by simp only [go_sem, *]), (by simp only [go_sem, *]), (by simp only [go_sem, *]), by simp only [go_sem] <;> rfl, rfl⟩ ?_
  rintro n e H' ih ⟨k, hk, rfl, hall, h0, h1, h7, h8, rfl⟩
  have IH : Hid _ := ih
  clear ih
  have HA : Hid _ := hall
  clear hall
  by_cases hlt : k < c.length
  · have hw := wrap_succ (k := k) (by omega)
    have ck := cw (c.getD k default)
    by_cases hr : q (c.getD k default) = true
    · rw [hr] at ck
      repeat' (first
    | (with_reducible apply run_seq)
    | (with_reducible apply run_block)
    | (with_reducible apply run_inBlock)
    | (with_reducible apply run_skip)
    | ((with_reducible apply run_go); simp only [go_sem, *])
    | ((with_reducible apply run_cond_t); (focus (simp only [go_sem, *]; done)))
    | ((with_reducible apply run_cond_f); (focus (simp only [go_sem, *]; done)))
    | ((with_reducible apply runO_callV); (focus (simp only [go_sem, *]; rfl)); (focus (exact known23)); simp only [go_sem, *]; refine (ck).use ?_; (with_reducible apply runO_go); simp only [go_sem, *]))
      refine IH.out (c.length - (k + 1)) _ _ (by omega) ⟨k + 1, by omega, rfl, all_take_succG hlt HA.out hr, (by simp only [go_sem, *]), (by simp only [go_sem, *]), (by simp only [go_sem, *]), (by simp only [go_sem, *]), rfl⟩
    · have hr' : q (c.getD k default) = false := by simpa using hr
      rw [hr'] at ck
      repeat' (first
    | (with_reducible apply run_seq)
    | (with_reducible apply run_block)
    | (with_reducible apply run_skip)
    | ((with_reducible apply run_go); simp only [go_sem, *])
    | ((with_reducible apply run_cond_t); (focus (simp only [go_sem, *]; done)))
    | ((with_reducible apply runO_callV); (focus (simp only [go_sem, *]; rfl)); (focus (exact known23)); simp only [go_sem, *]; refine (ck).use ?_; (with_reducible apply runO_go); simp only [go_sem, *])
    | ((with_reducible apply run_ret Try.func31 res31 (H' := H)); (focus (simp only [go_sem, *]; rfl)); (focus trivial); (focus (repeat (first | assumption | exact Heap.sub_refl _ | refine Heap.sub_congr ?_ | refine Heap.sub_set ?_ (by assumption) | refine Heap.sub_set2 ?_ (by first | assumption | (simp only [*]; done) | (simp only [Heap.set_none', ne_eq, *, not_false_eq_true, and_self]; done)))))))
      exact ⟨by rw [badG_of hlt HA.out hr']; rfl, rfl⟩
  · repeat' (first
    | (with_reducible apply run_seq)
    | (with_reducible apply run_exit rfl)
    | ((with_reducible apply run_go); simp only [go_sem, *])
    | ((with_reducible apply run_cond_f); (focus (simp only [go_sem, *]; done)))
    | ((with_reducible apply run_ret Try.func31 res31 (H' := H)); (focus (simp only [go_sem, *]; rfl)); (focus trivial); (focus (repeat (first | assumption | exact Heap.sub_refl _ | refine Heap.sub_congr ?_ | refine Heap.sub_set ?_ (by assumption) | refine Heap.sub_set2 ?_ (by first | assumption | (simp only [*]; done) | (simp only [Heap.set_none', ne_eq, *, not_false_eq_true, and_self]; done)))))))
    have ha := HA.out
    rw [List.take_of_length_le (Nat.not_lt.1 hlt)] at ha
    exact ⟨by rw [badG, if_pos ha]; rfl, rfl⟩

theorem containsI_call (W : World) (H : Heap) (pp pc e1 e2 : Nat) (p : Pg) (c : List In) (h1 : H pp = some (.cells (pgC p) e1)) (h2 : H pc = some (.cells [.list (insC c)] e2)) (hv : okVM p.vs p.ms) (hc : c.length ≤ 1000000) :
    CallA Try.prog W 25 [.list (insC c), .v (.func (.func 23) #[] #[.pointer (some ⟨pp, 0, none⟩), .pointer (some ⟨pc, 0, none⟩)])] H fun r H' =>
      r = .v (.bool (!c.all (insR p.vs p.ms (c.length : Int)))) ∧ H' = H := by
  refine call_in Try.func25 rfl Try.ntmps25 (by simp) ?_
  have ci := indexI_call W H pp pc e1 e2 p c h1 h2 hv hc
  clear h1 h2
  repeat' (first
    | (with_reducible apply run_seq)
    | ((with_reducible apply run_go); simp only [go_sem, *])
    | ((with_reducible apply runO_callF known31); simp only [go_sem, *]; refine (ci).use ?_; (with_reducible apply runO_go); simp only [go_sem, *])
    | ((with_reducible apply run_ret Try.func25 res25 (H' := H)); (focus (simp only [go_sem, *]; rfl)); (focus trivial); (focus (repeat (first | assumption | exact Heap.sub_refl _ | refine Heap.sub_congr ?_ | refine Heap.sub_set ?_ (by assumption) | refine Heap.sub_set2 ?_ (by first | assumption | (simp only [*]; done) | (simp only [Heap.set_none', ne_eq, *, not_false_eq_true, and_self]; done)))))))
  refine ⟨vb ?_, rfl⟩
  unfold badG
  split
  · rename_i h; simp [h]
  · rename_i h; simp [h]

/-- A thread may be. -/
def thrR (v m : Int) (c : List In) : Bool := decide (c.length ≤ 8) && c.all (insR v m (c.length : Int))
def rightP (p : Pg) : Bool := decide ((0 ≤ p.vs ∧ p.vs ≤ 4) ∧ (0 ≤ p.ms ∧ p.ms ≤ 2) ∧ 1 ≤ p.th.length ∧ p.th.length ≤ 4) && p.th.all (thrR p.vs p.ms)

set_option maxHeartbeats 4000000 in
theorem rightP_call (W : World) (H : Heap) (p : Pg) (hc : ∀ c ∈ p.th, c.length ≤ 1000000) :
    CallA Try.prog W 13 [.agg (pgC p)] H fun r H' => r = .v (.bool (rightP p)) ∧ H' = H := by
  refine call_in Try.func13 rfl Try.ntmps13 (by simp) ?_
  repeat' (first
    | (with_reducible apply run_seq)
    | (with_reducible apply run_block)
    | (with_reducible apply run_skip)
    | ((with_reducible apply run_go); simp only [go_sem, *])
    | ((with_reducible apply run_cond); (focus (simp only [go_sem, *]; rfl)); (all_goals intro _))
    | ((with_reducible apply runO_box); (focus (simp only [go_sem, *]; done)); intro pb hpb; have hfb := Heap.ne_of_none hpb; (try simp only [Heap.set_none'] at hpb); (with_reducible apply runO_go); simp only [go_sem, *])
    | ((with_reducible apply runO_callF known22); simp only [go_sem, *]; refine (within_call W _ _ _ _).use ?_; (with_reducible apply runO_go); simp only [go_sem, *])
    | ((with_reducible apply runO_callFG known22); (focus (simp only [go_sem, *]; rfl)); (focus (intro _; simp only [go_sem, *]; exact within_call W _ _ _ _)); (with_reducible apply runO_go); simp only [go_sem, *])
    | ((with_reducible apply run_ret Try.func13 res13 (H' := H)); (focus (simp only [go_sem, *]; rfl)); (focus trivial); (focus (repeat (first | assumption | exact Heap.sub_refl _ | refine Heap.sub_congr ?_ | refine Heap.sub_set ?_ (by assumption) | refine Heap.sub_set2 ?_ (by first | assumption | (simp only [*]; done) | (simp only [Heap.set_none', ne_eq, *, not_false_eq_true, and_self]; done)))))))
  · rename_i h
    refine ⟨vb ?_, rfl⟩
    unfold rightP
    rw [decide_eq_false]
    · rfl
    · simp only [Bool.or_eq_true, Bool.not_eq_true', Bool.and_eq_false_iff, decide_eq_false_iff_not] at h
      omega
  rename_i h
  have hok : (0 ≤ p.vs ∧ p.vs ≤ 4) ∧ (0 ≤ p.ms ∧ p.ms ≤ 2) ∧ 1 ≤ p.th.length ∧ p.th.length ≤ 4 := by
    simp only [Bool.or_eq_false_iff, Bool.not_eq_false', Bool.and_eq_true, decide_eq_true_eq] at h
    omega
  clear h
  have hv : okVM p.vs p.ms := ⟨hok.1, hok.2.1⟩
  have hR : rightP p = p.th.all (thrR p.vs p.ms) := by unfold rightP; rw [decide_eq_true hok]; rfl
  rw [hR]
  have hl4 : p.th.length ≤ 4 := hok.2.2.2
  clear hok hR
  generalize pb = pp at *
  clear hfb
  refine run_loop (fun n e H' => ∃ k : Nat, k ≤ p.th.length ∧ n = p.th.length - k ∧ (p.th.take k).all (thrR p.vs p.ms) = true ∧ e 1 = .v (.pointer (some ⟨pp, 0, none⟩)) ∧ e 24 = .list (thsC p.th) ∧ e 25 = .v (.int .i64 (p.th.length : Int)) ∧ e 26 = .v (.int .i64 (k : Int)) ∧
      H.set pp (.cells (pgC p) 24) = H') p.th.length
      ⟨0, Nat.zero_le _, rfl, rfl, (by simp only [go_sem, *]), (by simp only [go_sem, *]), (by simp only [go_sem, *]), by simp only [go_sem] <;> rfl, rfl⟩ ?_
  rintro n e H' ih ⟨k, hk, rfl, hall, h1, h24, h25, h26, rfl⟩
  have IH : Hid _ := ih
  clear ih
  have HA : Hid _ := hall
  clear hall
  by_cases hlt : k < p.th.length
  · have hw := wrap_succ (k := k) (by omega)
    have hcl := hc (p.th.getD k []) (by simp [List.getD_eq_getElem?_getD, List.getElem?_eq_getElem hlt])
    generalize hcd : p.th.getD k [] = cd at *
    have hth : thrR p.vs p.ms cd = (decide (cd.length ≤ 8) && cd.all (insR p.vs p.ms (cd.length : Int))) := rfl
    have HC : Hid _ := hc
    clear hc
    have HT : Hid _ := hth
    clear hth
    by_cases h8 : cd.length ≤ 8
    · have n8 : ¬ (8 : Int) < (cd.length : Int) := by omega
      repeat' (first
    | (with_reducible apply run_seq)
    | (with_reducible apply run_block)
    | (with_reducible apply run_skip)
    | ((with_reducible apply run_go); simp only [go_sem, *])
    | ((with_reducible apply run_cond_t); (focus (simp only [go_sem, *]; done)))
    | ((with_reducible apply runO_alloc); (focus (simp only [go_sem, *]; rfl)); intro pb hpb; have hfb := Heap.ne_of_none hpb; (try simp only [Heap.set_none'] at hpb); (with_reducible apply runO_go); simp only [go_sem, *])
    | ((with_reducible apply runO_store); (focus (simp only [go_sem]; rfl)); (focus (simp only [go_sem, *]; rfl)); (focus (simp only [go_sem, *]; rfl)); (focus (simp only [go_sem, *]; done)); (focus (simp only [go_sem, *]; done)); (focus (simp only [go_sem, *]; done)); (with_reducible apply runO_go); simp only [go_sem, *, Heap.set_set]))
      have c1 : CallA Try.prog W 25 [.list (insC cd), .v (.func (.func 23) #[] #[.pointer (some ⟨pp, 0, none⟩), .pointer (some ⟨pb, 0, none⟩)])]
          ((H.set pp (.cells (pgC p) 24)).set pb (.cells [.list (insC cd)] 32)) fun r H' => r = .v (.bool (!cd.all (insR p.vs p.ms (cd.length : Int)))) ∧ H' = _ :=
        containsI_call W _ pp pb 24 32 p cd (by simp only [go_sem, *]) (by simp only [go_sem, *]) hv hcl
      cases hq : cd.all (insR p.vs p.ms (cd.length : Int)) with
      | true =>
        rw [hq] at c1
        repeat' (first
    | (with_reducible apply run_inBlock)
    | (with_reducible apply run_skip)
    | ((with_reducible apply run_go); simp only [go_sem, *])
    | ((with_reducible apply run_cond_f); (focus (simp only [go_sem, *]; done)))
    | ((with_reducible apply runO_callFG known25); (focus (simp only [go_sem, *]; rfl)); (focus (intro _; simp only [go_sem, *]; exact c1)); (with_reducible apply runO_go); simp only [go_sem, *]))
        refine run_drop (Heap.sub_set (Heap.sub_refl _) (by simp only [Heap.set_none', ne_eq, *, not_false_eq_true, and_self])) ?_
        refine IH.out (p.th.length - (k + 1)) _ _ (by omega) ⟨k + 1, by omega, rfl, all_take_succG hlt HA.out ?_, (by simp only [go_sem, *]), (by simp only [go_sem, *]), (by simp only [go_sem, *]), (by simp only [go_sem, *]), rfl⟩
        show thrR p.vs p.ms (p.th.getD k []) = true
        rw [hcd, HT.out, hq, decide_eq_true h8]
        rfl
      | false =>
        rw [hq] at c1
        repeat' (first
    | (with_reducible apply run_seq)
    | ((with_reducible apply run_go); simp only [go_sem, *])
    | ((with_reducible apply run_cond_t); (focus (simp only [go_sem, *]; done)))
    | ((with_reducible apply runO_callFG known25); (focus (simp only [go_sem, *]; rfl)); (focus (intro _; simp only [go_sem, *]; exact c1)); (with_reducible apply runO_go); simp only [go_sem, *])
    | ((with_reducible apply run_ret Try.func13 res13 (H' := H)); (focus (simp only [go_sem, *]; rfl)); (focus trivial); (focus (repeat (first | assumption | exact Heap.sub_refl _ | refine Heap.sub_congr ?_ | refine Heap.sub_set ?_ (by assumption) | refine Heap.sub_set2 ?_ (by first | assumption | (simp only [*]; done) | (simp only [Heap.set_none', ne_eq, *, not_false_eq_true, and_self]; done)))))))
        refine ⟨vb ?_, rfl⟩
        rw [all_notG hlt]
        show thrR p.vs p.ms (p.th.getD k []) = false
        rw [hcd, HT.out, hq, decide_eq_true h8]
        rfl
    · have n8 : (8 : Int) < (cd.length : Int) := by omega
      repeat' (first
    | (with_reducible apply run_seq)
    | (with_reducible apply run_block)
    | (with_reducible apply run_skip)
    | ((with_reducible apply run_go); simp only [go_sem, *])
    | ((with_reducible apply run_cond_t); (focus (simp only [go_sem, *]; done)))
    | ((with_reducible apply runO_alloc); (focus (simp only [go_sem, *]; rfl)); intro pb hpb; have hfb := Heap.ne_of_none hpb; (try simp only [Heap.set_none'] at hpb); (with_reducible apply runO_go); simp only [go_sem, *])
    | ((with_reducible apply runO_store); (focus (simp only [go_sem]; rfl)); (focus (simp only [go_sem, *]; rfl)); (focus (simp only [go_sem, *]; rfl)); (focus (simp only [go_sem, *]; done)); (focus (simp only [go_sem, *]; done)); (focus (simp only [go_sem, *]; done)); (with_reducible apply runO_go); simp only [go_sem, *, Heap.set_set])
    | ((with_reducible apply runO_skipF); (focus (simp only [go_sem, *]; rfl)); (focus rfl); (with_reducible apply runO_go); simp only [go_sem, *])
    | ((with_reducible apply run_ret Try.func13 res13 (H' := H)); (focus (simp only [go_sem, *]; rfl)); (focus trivial); (focus (repeat (first | assumption | exact Heap.sub_refl _ | refine Heap.sub_congr ?_ | refine Heap.sub_set ?_ (by assumption) | refine Heap.sub_set2 ?_ (by first | assumption | (simp only [*]; done) | (simp only [Heap.set_none', ne_eq, *, not_false_eq_true, and_self]; done)))))))
      refine ⟨vb ?_, rfl⟩
      rw [all_notG hlt]
      show thrR p.vs p.ms (p.th.getD k []) = false
      rw [hcd, HT.out, decide_eq_false h8]
      rfl
  · repeat' (first
    | (with_reducible apply run_seq)
    | (with_reducible apply run_exit rfl)
    | ((with_reducible apply run_go); simp only [go_sem, *])
    | ((with_reducible apply run_cond_f); (focus (simp only [go_sem, *]; done)))
    | ((with_reducible apply run_ret Try.func13 res13 (H' := H)); (focus (simp only [go_sem, *]; rfl)); (focus trivial); (focus (repeat (first | assumption | exact Heap.sub_refl _ | refine Heap.sub_congr ?_ | refine Heap.sub_set ?_ (by assumption) | refine Heap.sub_set2 ?_ (by first | assumption | (simp only [*]; done) | (simp only [Heap.set_none', ne_eq, *, not_false_eq_true, and_self]; done)))))))
    obtain rfl : k = p.th.length := by omega
    have ha := HA.out
    rw [List.take_length] at ha
    rw [ha]
    exact ⟨rfl, rfl⟩
end Go.Proofs.Ytkoechchjiddhaa
set_option linter.unusedSimpArgs false
set_option linter.unusedVariables false
namespace Go.Proofs.Ytkoechchjiddhaa
open Go Go.Sn Go.RowKit

set_option maxHeartbeats 4000000 in
theorem rightPR_call (W : World) (H : Heap) (p : Pg) (hc : ∀ c ∈ p.th, c.length ≤ 1000000) :
    CallA Try.prog W 12 [.agg (pgC p)] H fun r H' => r = .v (.bool (rightP p)) ∧ H' = H := by
  refine call_in Try.func12 rfl Try.ntmps12 (by simp) ?_
  repeat' (first
    | (with_reducible apply run_seq)
    | (with_reducible apply run_block)
    | (with_reducible apply run_skip)
    | ((with_reducible apply run_go); simp only [go_sem, *])
    | ((with_reducible apply run_cond); (focus (simp only [go_sem, *]; rfl)); (all_goals intro _))
    | ((with_reducible apply runO_box); (focus (simp only [go_sem, *]; done)); intro pb hpb; have hfb := Heap.ne_of_none hpb; (try simp only [Heap.set_none'] at hpb); (with_reducible apply runO_go); simp only [go_sem, *])
    | ((with_reducible apply runO_callF known20); simp only [go_sem, *]; refine (withinR_call W _ _ _ _).use ?_; (with_reducible apply runO_go); simp only [go_sem, *])
    | ((with_reducible apply runO_callFG known20); (focus (simp only [go_sem, *]; rfl)); (focus (intro _; simp only [go_sem, *]; exact withinR_call W _ _ _ _)); (with_reducible apply runO_go); simp only [go_sem, *])
    | ((with_reducible apply run_ret Try.func12 res12 (H' := H)); (focus (simp only [go_sem, *]; rfl)); (focus trivial); (focus (repeat (first | assumption | exact Heap.sub_refl _ | refine Heap.sub_congr ?_ | refine Heap.sub_set ?_ (by assumption) | refine Heap.sub_set2 ?_ (by first | assumption | (simp only [*]; done) | (simp only [Heap.set_none', ne_eq, *, not_false_eq_true, and_self]; done)))))))
  · rename_i h
    refine ⟨vb ?_, rfl⟩
    unfold rightP
    rw [decide_eq_false]
    · rfl
    · simp only [Bool.or_eq_true, Bool.not_eq_true', Bool.and_eq_false_iff, decide_eq_false_iff_not] at h
      omega
  rename_i h
  have hok : (0 ≤ p.vs ∧ p.vs ≤ 4) ∧ (0 ≤ p.ms ∧ p.ms ≤ 2) ∧ 1 ≤ p.th.length ∧ p.th.length ≤ 4 := by
    simp only [Bool.or_eq_false_iff, Bool.not_eq_false', Bool.and_eq_true, decide_eq_true_eq] at h
    omega
  clear h
  have hR : rightP p = p.th.all (thrR p.vs p.ms) := by unfold rightP; rw [decide_eq_true hok]; rfl
  rw [hR]
  have hl4 : p.th.length ≤ 4 := hok.2.2.2
  have hv1 := hok.1
  have hv2 := hok.2.1
  clear hok hR
  generalize pb = pp at *
  clear hfb
  have hcl : ∀ k, k < p.th.length → (p.th.getD k []).length ≤ 1000000 := fun k hk => hc _ (by simp [List.getD_eq_getElem?_getD, List.getElem?_eq_getElem hk])
  have HC : Hid _ := hcl
  clear hc hcl
  refine run_loop (fun na ea Ha => ∃ (k : Nat), k ≤ p.th.length ∧ na = p.th.length - k ∧ ((p.th.take k).all (thrR p.vs p.ms) = true) ∧ ea 1 = .v (.pointer (some ⟨pp, 0, none⟩)) ∧ ea 3 = .v (.int .i64 (k : Int)) ∧ H.set pp (.cells (pgC p) 24) = Ha) (p.th.length)
      ⟨0, Nat.zero_le _, rfl, rfl, (by simp only [go_sem, *]), (by simp only [go_sem] <;> rfl), rfl⟩ ?_
  rintro na ea Ha ih ⟨k, ak, rfl, va0, as1, as3, rfl⟩
  have IHa : Hid _ := ih
  clear ih
  have Ia0 : Hid _ := va0
  clear va0
  by_cases hlt : k < p.th.length
  · have hw := wrap_succ (k := k) (by omega)
    have hcd' := HC.out k hlt
    generalize hcd : p.th.getD k [] = cd at *
    have hth : thrR p.vs p.ms cd = (decide (cd.length ≤ 8) && cd.all (insR p.vs p.ms (cd.length : Int))) := rfl
    have HT : Hid _ := hth
    clear hth
    by_cases h8 : cd.length ≤ 8
    · have n8 : ¬ (8 : Int) < (cd.length : Int) := by omega
      repeat' (first
    | (with_reducible apply run_seq)
    | (with_reducible apply run_block)
    | (with_reducible apply run_skip)
    | ((with_reducible apply run_go); simp only [go_sem, *])
    | ((with_reducible apply run_cond_t); (focus (simp only [go_sem, *]; done)))
    | ((with_reducible apply run_cond_f); (focus (simp only [go_sem, *]; done))))
      refine run_loop (fun nb eb Hb => ∃ (j : Nat), j ≤ cd.length ∧ nb = cd.length - j ∧ ((cd.take j).all (insR p.vs p.ms (cd.length : Int)) = true) ∧ eb 1 = .v (.pointer (some ⟨pp, 0, none⟩)) ∧ eb 3 = .v (.int .i64 (k : Int)) ∧ eb 4 = .list (insC cd) ∧ eb 5 = .v (.int .i64 (j : Int)) ∧ H.set pp (.cells (pgC p) 24) = Hb) (cd.length)
          ⟨0, Nat.zero_le _, rfl, rfl, (by simp only [go_sem, *]), (by simp only [go_sem, *]), (by simp only [go_sem, *]), (by simp only [go_sem] <;> rfl), rfl⟩ ?_
      rintro nb eb Hb ih ⟨j, bk, rfl, vb0, bs1, bs3, bs4, bs5, rfl⟩
      have IHb : Hid _ := ih
      clear ih
      have Ib0 : Hid _ := vb0
      clear vb0
      clear as1 as3
      by_cases hjt : j < cd.length
      · have hwj := wrap_succ (k := j) (by omega)
        have c1 := fun H => instrR_call W H p (cd.length : Int) (cd.getD j default) hv1 hv2
        cases hq : insR p.vs p.ms (cd.length : Int) (cd.getD j default) with
        | true =>
          rw [hq] at c1
          repeat' (first
    | (with_reducible apply run_seq)
    | (with_reducible apply run_block)
    | (with_reducible apply run_inBlock)
    | (with_reducible apply run_skip)
    | ((with_reducible apply run_go); simp only [go_sem, *])
    | ((with_reducible apply run_drawGo Cl.zero Cl.zero_plain mixed); (focus kernel_rfl); simp only [go_sem, *])
    | ((with_reducible apply run_cond_t); (focus (simp only [go_sem, *]; done)))
    | ((with_reducible apply run_cond_f); (focus (simp only [go_sem, *]; done)))
    | ((with_reducible apply runD_callF known21); (focus rfl); (focus (simp only [go_sem, *]; exact c1 _)); (with_reducible first | apply runD_go Cl.zero_plain | apply runD_goC); simp only [go_sem, *]))
          refine IHb.out (cd.length - (j + 1)) _ _ (by omega) ⟨j + 1, by omega, rfl, all_take_succG hjt Ib0.out hq, (by simp only [go_sem, *]), (by simp only [go_sem, *]), (by simp only [go_sem, *]), (by simp only [go_sem, *]), rfl⟩
        | false =>
          rw [hq] at c1
          repeat' (first
    | (with_reducible apply run_seq)
    | (with_reducible apply run_block)
    | (with_reducible apply run_skip)
    | ((with_reducible apply run_go); simp only [go_sem, *])
    | ((with_reducible apply run_drawGo Cl.zero Cl.zero_plain mixed); (focus kernel_rfl); simp only [go_sem, *])
    | ((with_reducible apply run_cond_t); (focus (simp only [go_sem, *]; done)))
    | ((with_reducible apply runD_callF known21); (focus rfl); (focus (simp only [go_sem, *]; exact c1 _)); (with_reducible first | apply runD_go Cl.zero_plain | apply runD_goC); simp only [go_sem, *])
    | ((with_reducible apply run_ret Try.func12 res12 (H' := H)); (focus (simp only [go_sem, *]; rfl)); (focus trivial); (focus (repeat (first | assumption | exact Heap.sub_refl _ | refine Heap.sub_congr ?_ | refine Heap.sub_set ?_ (by assumption) | refine Heap.sub_set2 ?_ (by first | assumption | (simp only [*]; done) | (simp only [Heap.set_none', ne_eq, *, not_false_eq_true, and_self]; done)))))))
          refine ⟨vb ?_, rfl⟩
          rw [all_notG hlt]
          show thrR p.vs p.ms (p.th.getD k []) = false
          rw [hcd, HT.out, all_notG hjt hq]
          simp
      · obtain rfl : j = cd.length := by omega
        have hq := Ib0.out
        rw [List.take_length] at hq
        repeat' (first
    | (with_reducible apply run_seq)
    | (with_reducible apply run_inBlock)
    | (with_reducible apply run_exit rfl)
    | ((with_reducible apply run_go); simp only [go_sem, *])
    | ((with_reducible apply run_cond_f); (focus (simp only [go_sem, *]; done))))
        refine IHa.out (p.th.length - (k + 1)) _ _ (by omega) ⟨k + 1, by omega, rfl, all_take_succG hlt Ia0.out (by show thrR p.vs p.ms (p.th.getD k []) = true; rw [hcd, HT.out, hq, decide_eq_true h8]; rfl), (by simp only [go_sem, *]), (by simp only [go_sem, *]), rfl⟩
    · have n8 : (8 : Int) < (cd.length : Int) := by omega
      repeat' (first
    | (with_reducible apply run_seq)
    | (with_reducible apply run_block)
    | (with_reducible apply run_skip)
    | ((with_reducible apply run_go); simp only [go_sem, *])
    | ((with_reducible apply run_cond_t); (focus (simp only [go_sem, *]; done)))
    | ((with_reducible apply run_ret Try.func12 res12 (H' := H)); (focus (simp only [go_sem, *]; rfl)); (focus trivial); (focus (repeat (first | assumption | exact Heap.sub_refl _ | refine Heap.sub_congr ?_ | refine Heap.sub_set ?_ (by assumption) | refine Heap.sub_set2 ?_ (by first | assumption | (simp only [*]; done) | (simp only [Heap.set_none', ne_eq, *, not_false_eq_true, and_self]; done)))))))
      refine ⟨vb ?_, rfl⟩
      rw [all_notG hlt]
      show thrR p.vs p.ms (p.th.getD k []) = false
      rw [hcd, HT.out, decide_eq_false h8]
      rfl
  · repeat' (first
    | (with_reducible apply run_seq)
    | (with_reducible apply run_exit rfl)
    | ((with_reducible apply run_go); simp only [go_sem, *])
    | ((with_reducible apply run_cond_f); (focus (simp only [go_sem, *]; done)))
    | ((with_reducible apply run_ret Try.func12 res12 (H' := H)); (focus (simp only [go_sem, *]; rfl)); (focus trivial); (focus (repeat (first | assumption | exact Heap.sub_refl _ | refine Heap.sub_congr ?_ | refine Heap.sub_set ?_ (by assumption) | refine Heap.sub_set2 ?_ (by first | assumption | (simp only [*]; done) | (simp only [Heap.set_none', ne_eq, *, not_false_eq_true, and_self]; done)))))))
    obtain rfl : k = p.th.length := by omega
    have ha := Ia0.out
    rw [List.take_length] at ha
    rw [ha]
    exact ⟨rfl, rfl⟩

/-- Threads that can be gone over. -/
def fewP (p : Pg) : Bool := decide (p.th.length ≤ 20) && p.th.all fun c => decide (c.length ≤ 50)
theorem few_call (W : World) (H : Heap) (p : Pg) (hl : p.th.length ≤ 4000000000000000) :
    CallA Try.prog W 10 [.agg (pgC p)] H fun r H' => r = .v (.bool (fewP p)) ∧ H' = H := by
  refine call_in Try.func10 rfl Try.ntmps10 (by simp) ?_
  repeat' (first
    | (with_reducible apply run_seq)
    | (with_reducible apply run_block)
    | ((with_reducible apply run_go); simp only [go_sem, *])
    | ((with_reducible apply runO_box); (focus (simp only [go_sem, *]; done)); intro pb hpb; have hfb := Heap.ne_of_none hpb; (try simp only [Heap.set_none'] at hpb); (with_reducible apply runO_go); simp only [go_sem, *]))
  generalize pb = pp at *
  clear hfb
  refine run_loop (fun na ea Ha => ∃ (k : Nat), k ≤ p.th.length ∧ na = p.th.length - k ∧ ((p.th.take k).all (fun c => decide (c.length ≤ 50)) = true) ∧ ea 1 = .v (.pointer (some ⟨pp, 0, none⟩)) ∧ ea 3 = .v (.int .i64 (k : Int)) ∧ H.set pp (.cells (pgC p) 24) = Ha) (p.th.length)
      ⟨0, Nat.zero_le _, rfl, rfl, (by simp only [go_sem, *]), (by simp only [go_sem] <;> rfl), rfl⟩ ?_
  rintro na ea Ha ih ⟨k, ak, rfl, va0, as1, as3, rfl⟩
  have IHa : Hid _ := ih
  clear ih
  have Ia0 : Hid _ := va0
  clear va0
  by_cases hlt : k < p.th.length
  · have hw := wrap_succ (k := k) (by omega)
    generalize hcd : p.th.getD k [] = cd at *
    by_cases h50 : cd.length ≤ 50
    · have n50 : ¬ (50 : Int) < (cd.length : Int) := by omega
      repeat' (first
    | (with_reducible apply run_seq)
    | (with_reducible apply run_block)
    | (with_reducible apply run_inBlock)
    | (with_reducible apply run_skip)
    | ((with_reducible apply run_go); simp only [go_sem, *])
    | ((with_reducible apply run_cond_t); (focus (simp only [go_sem, *]; done)))
    | ((with_reducible apply run_cond_f); (focus (simp only [go_sem, *]; done))))
      refine IHa.out (p.th.length - (k + 1)) _ _ (by omega) ⟨k + 1, by omega, rfl, all_take_succG hlt Ia0.out (by show decide ((p.th.getD k []).length ≤ 50) = true; rw [hcd, decide_eq_true h50]), (by simp only [go_sem, *]), (by simp only [go_sem, *]), rfl⟩
    · have n50 : (50 : Int) < (cd.length : Int) := by omega
      repeat' (first
    | (with_reducible apply run_seq)
    | (with_reducible apply run_block)
    | (with_reducible apply run_skip)
    | ((with_reducible apply run_go); simp only [go_sem, *])
    | ((with_reducible apply run_cond_t); (focus (simp only [go_sem, *]; done)))
    | ((with_reducible apply run_ret Try.func10 res10 (H' := H)); (focus (simp only [go_sem, *]; rfl)); (focus trivial); (focus (repeat (first | assumption | exact Heap.sub_refl _ | refine Heap.sub_congr ?_ | refine Heap.sub_set ?_ (by assumption) | refine Heap.sub_set2 ?_ (by first | assumption | (simp only [*]; done) | (simp only [Heap.set_none', ne_eq, *, not_false_eq_true, and_self]; done)))))))
      refine ⟨vb ?_, rfl⟩
      unfold fewP
      rw [all_notG hlt]
      · simp
      · show decide ((p.th.getD k []).length ≤ 50) = false
        rw [hcd, decide_eq_false h50]
  · repeat' (first
    | (with_reducible apply run_seq)
    | (with_reducible apply run_exit rfl)
    | ((with_reducible apply run_go); simp only [go_sem, *])
    | ((with_reducible apply run_cond_f); (focus (simp only [go_sem, *]; done)))
    | ((with_reducible apply run_ret Try.func10 res10 (H' := H)); (focus (simp only [go_sem, *]; rfl)); (focus trivial); (focus (repeat (first | assumption | exact Heap.sub_refl _ | refine Heap.sub_congr ?_ | refine Heap.sub_set ?_ (by assumption) | refine Heap.sub_set2 ?_ (by first | assumption | (simp only [*]; done) | (simp only [Heap.set_none', ne_eq, *, not_false_eq_true, and_self]; done)))))))
    obtain rfl : k = p.th.length := by omega
    have ha := Ia0.out
    rw [List.take_length] at ha
    refine ⟨vb ?_, rfl⟩
    unfold fewP
    rw [ha, Bool.and_true]
    rw [Bool.eq_iff_iff, decide_eq_true_eq, decide_eq_true_eq]
    omega

def Sm (l : List (List In)) : Prop := l.length ≤ 4000000000000000 ∧ ∀ c ∈ l, c.length ≤ 4000000000000000
theorem Sm.get {l : List (List In)} (h : Sm l) (k : Nat) : (l.getD k []).length ≤ 4000000000000000 := by
  by_cases hk : k < l.length
  · exact h.2 _ (by simp [List.getD_eq_getElem?_getD, List.getElem?_eq_getElem hk])
  · simp [List.getD_eq_getElem?_getD, List.getElem?_eq_none (Nat.not_lt.1 hk)]
/-- Sizes of a program that can be gone over. -/
structure FewP (p : Pg) : Prop where
  len : p.th.length ≤ 20
  code : ∀ c ∈ p.th, c.length ≤ 50
theorem FewP.get {p : Pg} (h : FewP p) (k : Nat) : (p.th.getD k []).length ≤ 50 := by
  by_cases hk : k < p.th.length
  · exact h.code _ (by simp [List.getD_eq_getElem?_getD, List.getElem?_eq_getElem hk])
  · simp [List.getD_eq_getElem?_getD, List.getElem?_eq_none (Nat.not_lt.1 hk)]
theorem FewP.sm {p : Pg} (h : FewP p) : Sm p.th := ⟨by have := h.len; omega, fun c hc => by have := h.code c hc; omega⟩
theorem few_of {p : Pg} (h : fewP p = true) : FewP p := by
  unfold fewP at h
  rw [Bool.and_eq_true, decide_eq_true_eq, List.all_eq_true] at h
  exact ⟨h.1, fun c hc => by simpa using h.2 c hc⟩
theorem thr_len {v m : Int} {c : List In} (h : thrR v m c = true) : c.length ≤ 8 := by
  unfold thrR at h
  rw [Bool.and_eq_true, decide_eq_true_eq] at h
  exact h.1
theorem right_len {p : Pg} (h : rightP p = true) : p.th.length ≤ 4 ∧ ∀ c ∈ p.th, c.length ≤ 8 := by
  unfold rightP at h
  rw [Bool.and_eq_true, decide_eq_true_eq, List.all_eq_true] at h
  exact ⟨h.1.2.2.2, fun c hc => thr_len (h.2 c hc)⟩
end Go.Proofs.Ytkoechchjiddhaa
