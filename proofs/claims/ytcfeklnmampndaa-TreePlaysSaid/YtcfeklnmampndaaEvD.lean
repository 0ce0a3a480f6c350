/-
  Events, as the laws of states and what stands on them use them; what depends on what.
-/
import Derived.Test.YtcfeklnmampndaaBase
set_option linter.unusedSimpArgs false
set_option linter.unusedVariables false
namespace Go.Proofs.Ytcfeklnmampndaa
open Go Go.Sn Go.RowKit

structure Ev where
  th : Int
  kd : Int
  ob : Int
  fl : Bool
deriving DecidableEq, Inhabited

def ev0 : Ev := ⟨0, 0, 0, false⟩
def evC (e : Ev) : List D := [.v (.int .i64 e.th), .v (.int .i64 e.kd), .v (.int .i64 e.ob), .v (.bool e.fl)]

def evsC (l : List Ev) : List (List D) := l.map evC

@[go_sem] theorem evsC_length (l : List Ev) : (evsC l).length = l.length := by simp [evsC]
@[go_sem] theorem evsC_get (l : List Ev) (n : Nat) (h : n < l.length) : (evsC l).getD n [] = evC (l.getD n default) := by simp [evsC, List.getD, h]

@[go_sem] theorem evC_len (e : Ev) : (evC e).length = 4 := rfl
@[go_sem] theorem evC_get0 (e : Ev) : (evC e).getD 0 default = .v (.int .i64 e.th) := rfl
@[go_sem] theorem evC_get1 (e : Ev) : (evC e).getD 1 default = .v (.int .i64 e.kd) := rfl
@[go_sem] theorem evC_get2 (e : Ev) : (evC e).getD 2 default = .v (.int .i64 e.ob) := rfl
@[go_sem] theorem evC_get3 (e : Ev) : (evC e).getD 3 default = .v (.bool e.fl) := rfl
@[go_sem] theorem evC_drop1 (e : Ev) : (evC e).drop 1 = [.v (.int .i64 e.kd), .v (.int .i64 e.ob), .v (.bool e.fl)] := rfl
@[go_sem] theorem evC_drop2 (e : Ev) : (evC e).drop 2 = [.v (.int .i64 e.ob), .v (.bool e.fl)] := rfl
@[go_sem] theorem evC_drop3 (e : Ev) : (evC e).drop 3 = [.v (.bool e.fl)] := rfl
@[go_sem] theorem evC_drop4 (e : Ev) : (evC e).drop 4 = [] := rfl
@[go_sem] theorem evC_take4 (e : Ev) : (evC e).take 4 = evC e := rfl
@[go_sem] theorem evC_one (e : Ev) : (evC e).all D.one = true := rfl
@[go_sem] theorem evC_flat (e : Ev) : (evC e).map D.flat = evC e := rfl
@[go_sem] theorem evC_flat0 (e : Ev) : (evC e).map D.flat0 = evC e := rfl
@[go_sem] theorem evC_eq (a b : Ev) : eqCells [.int .i64, .int .i64, .int .i64, .bool] (evC a) (evC b) = some (decide (a = b)) := by
  obtain ⟨a0, a1, a2, a3⟩ := a
  obtain ⟨b0, b1, b2, b3⟩ := b
  simp only [evC, eqCells, eqCell, if_true, Option.some.injEq, Ev.mk.injEq]
  rw [Bool.eq_iff_iff]
  simp
theorem evC_mk (a b c : Int) (d : Bool) : ([.v (.int .i64 a), .v (.int .i64 b), .v (.int .i64 c), .v (.bool d)] : List D) = evC ⟨a, b, c, d⟩ := rfl
theorem evsC_all (l : List Ev) : ∀ ds ∈ evsC l, ds.length = 4 := by intro ds h; simp only [evsC, List.mem_map] at h; obtain ⟨n, _, rfl⟩ := h; rfl
theorem evsC_snoc (l : List Ev) (n : Ev) : evsC (l ++ [n]) = evsC l ++ [evC n] := by simp [evsC]

/-- What an event is of. -/
def clsE (k : Int) : Int := if k = 2 ∨ k = 3 then 1 else if k = 4 ∨ k = 5 then 2 else 0

theorem class_call (W : World) (H : Heap) (e : Ev) :
    CallA Try.prog W 69 [.agg (evC e)] H fun r H' => r = .v (.int .i64 (clsE e.kd)) ∧ H' = H := by
  refine call_in Try.func69 rfl Try.ntmps69 (by simp) ?_
  unfold evC
  repeat' (first
    | (with_reducible apply run_seq)
    | (with_reducible apply run_block)
    | (with_reducible apply run_inBlock)
    | (with_reducible apply run_skip)
    | ((with_reducible apply run_go); simp only [go_sem, *])
    | ((with_reducible apply run_cond_t); (focus (simp only [go_sem, *]; done)))
    | ((with_reducible apply run_cond); (focus (simp only [go_sem, *]; rfl)); (all_goals intro _))
    | ((with_reducible apply runO_box); (focus (simp only [go_sem, *]; done)); intro pb hpb; have hfb := Heap.ne_of_none hpb; (try simp only [Heap.set_none'] at hpb); (with_reducible apply runO_go); simp only [go_sem, *])
    | ((with_reducible apply run_ret Try.func69 res69 (H' := H)); (focus (simp only [go_sem, *]; rfl)); (focus trivial); (focus (repeat (first | assumption | exact Heap.sub_refl _ | refine Heap.sub_congr ?_ | refine Heap.sub_set ?_ (by assumption) | refine Heap.sub_set2 ?_ (by first | assumption | (simp only [*]; done) | (simp only [Heap.set_none', ne_eq, *, not_false_eq_true, and_self]; done)))))))
  all_goals (refine ⟨?_, rfl⟩; simp_all [clsE, tupA])

/-- Whether two events depend on one another. -/
def depE (a b : Ev) : Bool :=
  decide (a.th = b.th) || !(decide (clsE a.kd = 0) || !decide (clsE a.kd = clsE b.kd) || !decide (a.ob = b.ob)) && (!decide (a.kd = 2) || !decide (b.kd = 2))

theorem dep_call (W : World) (H : Heap) (a b : Ev) :
    CallA Try.prog W 61 [.agg (evC a), .agg (evC b)] H fun r H' => r = .v (.bool (depE a b)) ∧ H' = H := by
  refine call_in Try.func61 rfl Try.ntmps61 (by simp) ?_
  have ca := class_call W
  simp only [evC] at ca
  unfold evC
  repeat' (first
    | (with_reducible apply run_seq)
    | (with_reducible apply run_block)
    | (with_reducible apply run_inBlock)
    | (with_reducible apply run_skip)
    | ((with_reducible apply run_go); simp only [go_sem, *])
    | ((with_reducible apply run_cond); (focus (simp only [go_sem, *]; rfl)); (all_goals intro _))
    | ((with_reducible apply runO_box); (focus (simp only [go_sem, *]; done)); intro pb hpb; have hfb := Heap.ne_of_none hpb; (try simp only [Heap.set_none'] at hpb); (with_reducible apply runO_go); simp only [go_sem, *])
    | ((with_reducible apply runO_callF known69); simp only [go_sem, *]; refine (ca _ _).use ?_; (with_reducible apply runO_go); simp only [go_sem, *])
    | ((with_reducible apply runO_callFG known69); (focus (simp only [go_sem, *]; rfl)); (focus (intro _; simp only [go_sem, *]; exact ca _ _)); (with_reducible apply runO_go); simp only [go_sem, *])
    | ((with_reducible apply run_ret Try.func61 res61 (H' := H)); (focus (simp only [go_sem, *]; rfl)); (focus trivial); (focus (repeat (first | assumption | exact Heap.sub_refl _ | refine Heap.sub_congr ?_ | refine Heap.sub_set ?_ (by assumption) | refine Heap.sub_set2 ?_ (by first | assumption | (simp only [*]; done) | (simp only [Heap.set_none', ne_eq, *, not_false_eq_true, and_self]; done)))))))
  all_goals (refine ⟨?_, rfl⟩; simp only [depE, tupA, *]; simp)
theorem depE_comm (a b : Ev) : depE a b = depE b a := by
  unfold depE
  by_cases h1 : a.th = b.th
  · simp [h1]
  · have h1' : ¬ b.th = a.th := fun h => h1 h.symm
    by_cases h2 : clsE a.kd = clsE b.kd
    · by_cases h3 : a.ob = b.ob
      · simp [h1, h1', h2, h3, Bool.or_comm]
      · have h3' : ¬ b.ob = a.ob := fun h => h3 h.symm
        simp [h1, h1', h3, h3']
    · have h2' : ¬ clsE b.kd = clsE a.kd := fun h => h2 h.symm
      simp [h1, h1', h2, h2']
end Go.Proofs.Ytcfeklnmampndaa
