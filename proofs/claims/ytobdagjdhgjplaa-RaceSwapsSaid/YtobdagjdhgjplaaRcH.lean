/-
  Contracts: the answers that the document fixes, of races.
-/
import Derived.Test.YtobdagjdhgjplaaRcG
set_option linter.unusedSimpArgs false
set_option linter.unusedVariables false
namespace Go.Proofs.Ytobdagjdhgjplaa
open Go Go.Sn Go.RowKit
-- NONE stH_none

def q7 : Pg := ⟨1, 0, [[⟨2, 0, 0, 0⟩], [⟨2, 0, 0, 0⟩]]⟩
def C1 : St := ⟨q7, [⟨1, 0, 0, 0⟩, ⟨0, 1, 0, 0⟩], 0, 0, 0, 0, -1, -1⟩
theorem q7_ok : okN q7 1 = true := by decide
theorem C1_eq : rpl (newS q7 1) [0] = (0, [⟨0, 3, 0, false⟩], C1) := by decide
theorem C1_r : rsE C1 [⟨0, 3, 0, false⟩] = [⟨0, 1⟩] := by decide
theorem C1_v : revE [⟨0, 3, 0, false⟩, ⟨1, 3, 0, false⟩] = [⟨0, 1⟩] := by decide

set_option maxRecDepth 100000 in
set_option maxHeartbeats 8000000 in
theorem awake7_call (W : World) (H : Heap) : CallA Try.prog W 36 [] H fun r H' => r = .v (.bool true) ∧ H' = H := by
  refine call_in Try.func36 rfl Try.ntmps36 (by simp) ?_
  have n1 : ∀ H, CallA Try.prog W 24 [.agg [.v (.int .i64 1), .v (.int .i64 0), .list [[.list [[.v (.int .i64 2), .v (.int .i64 0), .v (.int .i64 0), .v (.int .i64 0)]]], [.list [[.v (.int .i64 2), .v (.int .i64 0), .v (.int .i64 0), .v (.int .i64 0)]]]]], .v (.int .i64 1), .list [[.v (.int .i64 0)]]] H (ReplP q7 1 [0] H) := fun H => replay_call W H q7 1 [0] (by decide) (by decide)
  repeat' (first
    | (with_reducible apply run_seq)
    | ((with_reducible apply run_go); simp only [go_sem, *])
    | ((with_reducible apply runO_buildSlice); (focus (simp only [go_sem]; rfl)); (focus (simp only [go_sem]; rfl)); (focus (simp only [go_sem]; rfl)); (focus rfl); (focus rfl); (focus (simp only [go_sem, *]; done)); (focus (simp only [go_sem, *]; done)); (focus decide); (with_reducible apply runO_go); simp only [go_sem, *]))
  (with_reducible apply runO_callF known24); simp only [go_sem, *]
  refine (n1 _).mono (fun d1 H1 hh => ?_)
  rcases hh with ⟨hno, _, _⟩ | ⟨_, hne0, _⟩ | ⟨_, _, l, hlb, hlc, hne, hcap, rfl, rfl⟩
  · exact absurd hno (by decide)
  · exact absurd hne0 (by decide)
  rw [C1_eq]
  clear n1
  have hcap2 : 2 ≤ l.cap := hcap
  have at0 : AtP (stP H l C1) l C1 := stH_at hne hcap2
  have o1 : OkSt C1 := by have := (ok_rpl [0] (okN_ok q7_ok)).1; rw [C1_eq] at this; exact this
  have f1 : ∀ H', AtP H' l C1 → CallA Try.prog W 41 [.v (.pointer (some ⟨l.b, 0, none⟩)), .list [[.v (.int .i64 0), .v (.int .i64 3), .v (.int .i64 0), .v (.bool false)]]] H' fun r H'' => r = .list [[.v (.int .i64 0), .v (.int .i64 1)]] ∧ H'' = H' := fun H' h' => by
    have h := races_call W H' l C1 h' o1 [⟨0, 3, 0, false⟩] (by simp); rw [C1_r] at h; exact h
  have f2 : ∀ H, CallA Try.prog W 39 [.list [[.v (.int .i64 0), .v (.int .i64 3), .v (.int .i64 0), .v (.bool false)], [.v (.int .i64 1), .v (.int .i64 3), .v (.int .i64 0), .v (.bool false)]]] H fun r H' => r = .list [[.v (.int .i64 0), .v (.int .i64 1)]] ∧ H' = H := fun H => by
    have h := rev_call W H [⟨0, 3, 0, false⟩, ⟨1, 3, 0, false⟩] (by simp); rw [C1_v] at h; exact h
  have f3 : ∀ H, CallA Try.prog W 41 [.v (.pointer none), .list [[.v (.int .i64 0), .v (.int .i64 3), .v (.int .i64 0), .v (.bool false)]]] H fun r H' => r = .list [] ∧ H' = H := fun H => nilRaces_call W H [⟨0, 3, 0, false⟩] (by simp)
  have hsub : H.sub (stP H l C1) := stH_subH hlb hlc
  have hev : evsC [⟨0, 3, 0, false⟩] = [[.v (.int .i64 0), .v (.int .i64 3), .v (.int .i64 0), .v (.bool false)]] := rfl
  clear hlb hlc hne hcap hcap2 o1
  simp only [hev]
  generalize stP H l C1 = V at *
  (with_reducible apply runO_go); simp only [go_sem, *]
  repeat' (first
    | (with_reducible apply run_seq)
    | ((with_reducible apply run_go); simp only [go_sem, *])
    | ((with_reducible apply runO_callF known41); simp only [go_sem, *]; refine (f1 _ (at0.mono (by (repeat (first | assumption | exact Heap.sub_refl _ | refine Heap.sub_congr ?_ | refine Heap.sub_set ?_ (by assumption) | refine Heap.sub_set2 ?_ (by first | assumption | (simp only [*]; done) | (simp only [Heap.set_none', stH_none, ne_eq, *, not_false_eq_true, and_self]; done)))); done))).use ?_; (with_reducible apply runO_go); simp only [go_sem, *])
    | ((with_reducible apply runO_callF known39); simp only [go_sem, *]; refine (f2 _).use ?_; (with_reducible apply runO_go); simp only [go_sem, *])
    | ((with_reducible apply runO_callFG known41); (focus (simp only [go_sem, *]; rfl)); (focus (intro _; simp only [go_sem, *]; exact f3 _)); (with_reducible apply runO_go); simp only [go_sem, *])
    | ((with_reducible apply runO_buildSlice); (focus (simp only [go_sem]; rfl)); (focus (simp only [go_sem]; rfl)); (focus (simp only [go_sem]; rfl)); (focus rfl); (focus rfl); (focus (simp only [go_sem, *]; done)); (focus (simp only [go_sem, *]; done)); (focus decide); (with_reducible apply runO_go); simp only [go_sem, *])
    | ((with_reducible apply run_ret Try.func36 res36 (H' := H)); (focus (simp only [go_sem, *]; rfl)); (focus trivial); (focus (repeat (first | assumption | exact Heap.sub_refl _ | refine Heap.sub_congr ?_ | refine Heap.sub_set ?_ (by assumption) | refine Heap.sub_set2 ?_ (by first | assumption | (simp only [*]; done) | (simp only [Heap.set_none', stH_none, ne_eq, *, not_false_eq_true, and_self]; done)))))))
  exact ⟨rfl, rfl⟩
end Go.Proofs.Ytobdagjdhgjplaa
