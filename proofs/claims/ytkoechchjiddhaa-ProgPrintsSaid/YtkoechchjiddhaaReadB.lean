/-
  What arguments read as: numbers, strings, bytes.
-/
import Derived.Test.YtkoechchjiddhaaBase
import Derived.Test.YtkoechchjiddhaaLibB
import Derived.KernelRfl
set_option linter.unusedSimpArgs false
set_option linter.unusedVariables false
namespace Go.Proofs.Ytkoechchjiddhaa
open Go Go.Sn Go.RowKit

theorem choose_map {A : Type} {f : A → List D} {p : A → Prop} : ∀ (xs : List (List D)), (∀ x ∈ xs, ∃ a, x = f a ∧ p a) → ∃ l : List A, xs = l.map f ∧ ∀ a ∈ l, p a
  | [], _ => ⟨[], rfl, by simp⟩
  | x :: xs, h => by
    obtain ⟨a, rfl, ha⟩ := h x (by simp)
    obtain ⟨l, rfl, hl⟩ := choose_map xs fun y hy => h y (by simp [hy])
    exact ⟨a :: l, rfl, by simpa using ⟨ha, hl⟩⟩
def okI (n : Int) : Prop := (Lit.int .i64 n).wf = true
theorem reads_Int (W : World) : Reads Try.prog W 3 fun ds => ∃ n : Int, ds = [.v (.int .i64 n)] ∧ okI n := reads_int Try.underlying3
end Go.Proofs.Ytkoechchjiddhaa
