/-
  What arguments read as: strings, rows of bytes.
-/
import Derived.Test.YtcfeklnmampndaaReadU
set_option linter.unusedSimpArgs false
set_option linter.unusedVariables false
namespace Go.Proofs.Ytcfeklnmampndaa
open Go Go.Sn Go.RowKit

theorem reads_Str (W : World) : Reads Try.prog W 9 fun ds => ∃ s : List UInt8, ds = [.v (.string (strL s))] ∧ s.length ≤ 140737488351232 :=
  (reads_string Try.underlying9).mono fun ds ⟨s, h1, h2⟩ => ⟨s.data.toList, h1, by simpa using h2⟩
theorem reads_Bytes (W : World) : Reads Try.prog W 106 fun ds => ∃ l : List UInt8, ds = [.list (bytesC l)] ∧ l.length ≤ 140737488351232 :=
  (reads_slice (sz := 1) (by_ := 1) Try.underlying106 (by kernel_rfl) (by kernel_rfl) (by decide) (reads_Byte W)).mono (by
    rintro ds ⟨xs, rfl, h1, h2, h3, h4⟩
    obtain ⟨l, rfl, hl⟩ := choose_map xs h1
    exact ⟨l, rfl, by simpa using h4⟩)
end Go.Proofs.Ytcfeklnmampndaa
