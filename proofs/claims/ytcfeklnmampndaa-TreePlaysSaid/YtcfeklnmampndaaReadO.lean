/-
  Arguments as the laws of trees take them: calls, rows of calls.
-/
import Derived.Test.YtcfeklnmampndaaReadS
import Derived.Test.YtcfeklnmampndaaTrFH
set_option linter.unusedSimpArgs false
set_option linter.unusedVariables false
namespace Go.Proofs.Ytcfeklnmampndaa
open Go Go.Sn Go.RowKit

theorem reads_Op (W : World) : Reads Try.prog W 40 fun ds => ∃ o : Cl1, ds = clC o ∧ True :=
  (reads_struct (n := 4) Try.underlying40 rfl (by kernel_rfl) (readsF_cons (sz := 1) rfl (by kernel_rfl) (by decide) (reads_int Try.underlying3) (readsF_cons (sz := 1) rfl (by kernel_rfl) (by decide) (reads_int Try.underlying3)
    (readsF_cons (sz := 1) rfl (by kernel_rfl) (by decide) (reads_Str W) (readsF_cons (sz := 1) rfl (by kernel_rfl) (by decide) (reads_Byte W) readsF_nil))))).mono (by
      rintro ds ⟨_, _, rfl, ⟨a, rfl, ha⟩, _, _, rfl, ⟨b, rfl, hb⟩, _, _, rfl, ⟨c, rfl, hc⟩, _, _, rfl, ⟨d, rfl, hd⟩, rfl⟩
      exact ⟨⟨a, b, c, d.toBitVec⟩, rfl, trivial⟩)
theorem reads_Ops (W : World) : Reads Try.prog W 25 fun ds => ∃ l : List Cl1, ds = [.list (clsC l)] ∧ l.length ≤ 4000000000000000 :=
  (reads_slice (sz := 4) (by_ := 40) Try.underlying25 (by kernel_rfl) (by kernel_rfl) (by decide) (reads_Op W)).mono (by
    rintro ds ⟨xs, rfl, h1, h2, h3, h4⟩
    obtain ⟨l, rfl, hl⟩ := choose_map xs h1
    refine ⟨l, rfl, ?_⟩
    have : l.length * 40 ≤ 140737488351232 := by simpa using h4
    omega)
end Go.Proofs.Ytcfeklnmampndaa
