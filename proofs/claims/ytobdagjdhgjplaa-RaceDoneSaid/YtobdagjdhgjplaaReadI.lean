/-
  Arguments as the laws of states take them: rows of whole numbers.
-/
import Derived.Test.YtobdagjdhgjplaaReadP
set_option linter.unusedSimpArgs false
set_option linter.unusedVariables false
namespace Go.Proofs.Ytobdagjdhgjplaa
open Go Go.Sn

theorem reads_Ints (W : World) : Reads Try.prog W 22 fun ds => ∃ l : List Int, ds = [.list (intsC l)] ∧ l.length ≤ 140737488351232 :=
  (reads_slice (sz := 1) (by_ := 8) Try.underlying22 (by kernel_rfl) (by kernel_rfl) (by decide) (reads_Int W)).mono (by
    rintro ds ⟨xs, rfl, h1, h2, h3, h4⟩
    obtain ⟨l, rfl, hl⟩ := choose_map (A := Int) (f := fun n => [.v (.int .i64 n)]) xs h1
    refine ⟨l, rfl, ?_⟩
    rw [List.length_map] at h4
    omega)
end Go.Proofs.Ytobdagjdhgjplaa
