/-
  Contracts: the answers that the document fixes, of programs.
-/
import Derived.Test.YtkoechchjiddhaaPgI
import Derived.Test.YtkoechchjiddhaaPgH
set_option linter.unusedSimpArgs false
set_option linter.unusedVariables false
namespace Go.Proofs.Ytkoechchjiddhaa
open Go Go.Sn Go.RowKit

abbrev aP : Pg := ⟨1, 0, [[⟨3, 0, 0, -1⟩, ⟨2, 0, 0, 0⟩]]⟩
abbrev aS : List UInt8 := [1, 0, 1, 2, 3, 0, 0, 255, 2, 0, 0, 0]
theorem aP_sm : Sm aP.th := ⟨by decide, by decide⟩
theorem aP_few : FewP aP := ⟨by decide, by decide⟩

set_option maxHeartbeats 4000000 in
theorem awake1_call (W : World) (H : Heap) : CallA Try.prog W 9 [] H fun r H' => r = .v (.bool true) ∧ H' = H := by
  refine call_in Try.func9 rfl Try.ntmps9 (by simp) ?_
  have e1 : strOfNums (if rightP aP then prB aP else []) = strL aS := by decide
  have e2 : rdP aS = (0, aP) := by decide
  have e3 : rdP (aS ++ [120]) = (3, pg0) := by decide
  have e4 : rdP (aS.take 5) = (4, pg0) := by decide
  have e5 : rightP aP = true := by decide
  have e6 : rightP pg0 = false := by decide
  have c1 := fun H => printP_call W H aP (by decide)
  have c2 := fun H => readP_call W H aS (by decide)
  have c3 := fun H => readP_call W H (aS ++ [120]) (by decide)
  have c4 := fun H => readP_call W H (aS.take 5) (by decide)
  have c5 := fun H => printP_call W H pg0 (by decide)
  have c6 := fun H => sameP1_call W H aP aP aP_sm aP_sm
  have c7 := fun H => rightP_call W H aP (by decide)
  have c8 := fun H => copyF_call W H aP aP_few
  rw [e1, e5] at c1
  rw [e2] at c2
  rw [e3] at c3
  rw [e4] at c4
  rw [e6] at c5
  rw [e5] at c7
  rw [decide_eq_true rfl] at c6
  have f1 : strL aS ++ { data := #[120] } = strL (aS ++ [120]) := by decide
  have f2 : (strL aS).extract 0 5 = strL (aS.take 5) := by decide
  have f3 : imin 12 5 = 5 := by decide
  have f0 : 12 + (#[120] : Array UInt8).size ≤ maxLen := by decide
  clear e1 e2 e3 e4 e5 e6
  have hl : aS.length = 12 := rfl
  have hls : (aS = [1, 0, 1, 2, 3, 0, 0, 255, 2, 0, 0, 0]) = True := eq_true rfl
  simp only [pgC, pg0, thsC, insC, inC, List.map_cons, List.map_nil, if_true, Bool.false_eq_true, if_false] at c1 c2 c3 c4 c5 c6 c7 c8
  generalize aS = S at *
  repeat' (first
    | (with_reducible apply run_seq)
    | (with_reducible apply run_block)
    | (with_reducible apply run_inBlock)
    | (with_reducible apply run_skip)
    | (with_reducible apply run_exit rfl)
    | ((with_reducible apply run_go); simp only [go_sem, *])
    | ((with_reducible apply run_drawGo Cl.zero Cl.zero_plain mixed); (focus kernel_rfl); simp only [go_sem, *])
    | ((with_reducible apply runO_alloc); (focus (simp only [go_sem, *]; rfl)); intro pb hpb; have hfb := Heap.ne_of_none hpb; (try simp only [Heap.set_none'] at hpb); (with_reducible apply runO_go); simp only [go_sem, *])
    | ((with_reducible apply runO_store); (focus (simp only [go_sem]; rfl)); (focus (simp only [go_sem, *]; rfl)); (focus (simp only [go_sem, *]; rfl)); (focus (simp only [go_sem, *]; done)); (focus (simp only [go_sem, *]; done)); (focus (simp only [go_sem, *]; done)); (with_reducible apply runO_go); simp only [go_sem, *, Heap.set_set])
    | ((with_reducible apply runD_skipF); (focus rfl); (focus (simp only [go_sem, *]; rfl)); (focus rfl); (with_reducible first | apply runD_go Cl.zero_plain | apply runD_goC); simp only [go_sem, *])
    | ((first | (with_reducible apply runA_and) | (with_reducible apply runO_and) | (with_reducible apply runD_and)); (focus (first | assumption | (simp only [go_sem, *]; done) | (simp only [go_sem, *]; assumption))); (try simp only [go_sem, *]))
    | ((with_reducible apply runO_buildSlice); (focus (simp only [go_sem]; rfl)); (focus (simp only [go_sem]; rfl)); (focus (simp only [go_sem]; rfl)); (focus rfl); (focus rfl); (focus (simp only [go_sem, *]; done)); (focus (simp only [go_sem, *]; done)); (focus decide); (with_reducible apply runO_go); simp only [go_sem, *])
    | ((with_reducible apply runO_callF known11); simp only [go_sem, *]; refine (c1 _).use ?_; (with_reducible apply runO_go); simp only [go_sem, *])
    | ((with_reducible apply runO_callF known11); simp only [go_sem, *]; refine (c5 _).use ?_; (with_reducible apply runO_go); simp only [go_sem, *])
    | ((with_reducible apply runO_callF known17); simp only [go_sem, *]; refine (c2 _).use ?_; (with_reducible apply runO_go); simp only [go_sem, *])
    | ((with_reducible apply runO_callF known17); simp only [go_sem, *]; refine (c3 _).use ?_; (with_reducible apply runO_go); simp only [go_sem, *])
    | ((with_reducible apply runO_callF known17); simp only [go_sem, *]; refine (c4 _).use ?_; (with_reducible apply runO_go); simp only [go_sem, *])
    | ((with_reducible apply runD_callFG known15); (focus exact ⟨rfl, rfl⟩); (focus (simp only [go_sem, *]; rfl)); (focus (intro _; simp only [go_sem, *]; exact c6 _)); (with_reducible first | apply runD_go Cl.zero_plain | apply runD_goC); simp only [go_sem, *])
    | ((with_reducible apply runD_callFG known13); (focus exact ⟨rfl, rfl⟩); (focus (simp only [go_sem, *]; rfl)); (focus (intro _; simp only [go_sem, *]; exact c7 _)); (with_reducible first | apply runD_go Cl.zero_plain | apply runD_goC); simp only [go_sem, *])
    | ((with_reducible apply runD_callFG known14); (focus exact ⟨rfl, rfl⟩); (focus (simp only [go_sem, *]; rfl)); (focus (intro _; simp only [go_sem, *]; exact c8 _)); (with_reducible first | apply runD_go Cl.zero_plain | apply runD_goC); simp only [go_sem, *])
    | ((with_reducible apply run_ret Try.func9 res9 (H' := H)); (focus (simp only [go_sem, *]; rfl)); (focus trivial); (focus (repeat (first | assumption | exact Heap.sub_refl _ | refine Heap.sub_congr ?_ | refine Heap.sub_set ?_ (by assumption) | refine Heap.sub_set2 ?_ (by first | assumption | (simp only [*]; done) | (simp only [Heap.set_none', ne_eq, *, not_false_eq_true, and_self]; done)))))))
  exact ⟨rfl, rfl⟩
end Go.Proofs.Ytkoechchjiddhaa
