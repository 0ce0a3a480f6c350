/-
  Plain: who sleeps behind a step is the document's.
-/
import Derived.Test.YtcfeklnmampndaaSlE
import Derived.Test.YtcfeklnmampndaaSlC
set_option linter.unusedSimpArgs false
set_option linter.unusedVariables false
namespace Go.Proofs.Ytcfeklnmampndaa
open Go Go.Sn Go.RowKit

theorem allB_of {s : BitVec 8} {f : Nat → Bool} (h : ∀ k : Nat, k < 8 → hasE s (k : Int) = f k) : allB s 8 = ((List.range 8).filter f).map fun j : Nat => (j : Int) := by
  unfold allB
  congr 1
  exact List.filter_congr fun k hk => h k (List.mem_range.1 hk)
theorem child_law (s : St) (sa ea : BitVec 8) (t : Int) : allB (chE s sa ea t) 8 = chD s (allB sa 8) (allB ea 8) t := by
  unfold chE chD
  cases hh : s.has t with
  | false => simp only [Bool.false_eq_true, if_false]; decide
  | true =>
    simp only [if_true]
    refine allB_of fun k hk8 => ?_
    unfold chK chC
    rw [has_fold _ _ _ hk8, has_0, in_allB, in_allB, in_allB, has_not, has_or, has_one t hk8]
    unfold okC
    rw [dep_eq]
    have e3 : decide (t = (k : Int)) = decide ((k : Int) = t) := decide_eq_decide.2 ⟨fun e => e.symm, fun e => e.symm⟩
    rw [e3]
    cases hasE sa (k : Int) <;> cases hasE ea (k : Int) <;> cases decide ((k : Int) = t) <;> cases s.has (k : Int) <;> rfl
end Go.Proofs.Ytcfeklnmampndaa
