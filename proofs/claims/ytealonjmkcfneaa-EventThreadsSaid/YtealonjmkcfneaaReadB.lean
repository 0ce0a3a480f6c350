/-
  What arguments read as: numbers, strings, bytes.
-/
import Derived.Test.YtealonjmkcfneaaBase
import Derived.Test.YtealonjmkcfneaaRead
import Derived.KernelRfl
set_option linter.unusedSimpArgs false
set_option linter.unusedVariables false
namespace Go.Proofs.Ytealonjmkcfneaa
open Go Go.Sn Go.RowKit

theorem choose_map {A : Type} {f : A → List D} {p : A → Prop} : ∀ (xs : List (List D)), (∀ x ∈ xs, ∃ a, x = f a ∧ p a) → ∃ l : List A, xs = l.map f ∧ ∀ a ∈ l, p a
  | [], _ => ⟨[], rfl, by simp⟩
  | x :: xs, h => by
    obtain ⟨a, rfl, ha⟩ := h x (by simp)
    obtain ⟨l, rfl, hl⟩ := choose_map xs fun y hy => h y (by simp [hy])
    exact ⟨a :: l, rfl, by simpa using ⟨ha, hl⟩⟩
def okI (n : Int) : Prop := (Lit.int .i64 n).wf = true
theorem reads_Int (W : World) : Reads Try.prog W 3 fun ds => ∃ n : Int, ds = [.v (.int .i64 n)] ∧ okI n := reads_int Try.underlying3
theorem reads_Str (W : World) : Reads Try.prog W 9 fun ds => ∃ s : List UInt8, ds = [.v (.string (strL s))] ∧ s.length ≤ 140737488351232 :=
  (reads_string Try.underlying9).mono fun ds ⟨s, h1, h2⟩ => ⟨s.data.toList, h1, by simpa using h2⟩
theorem byte_of {n : Int} (h : (Lit.int .u8 n).wf = true) : ∃ b : UInt8, n = (b.toNat : Int) := by
  have m1 : IntKind.u8.min = 0 := rfl
  have m2 : IntKind.u8.max = 255 := rfl
  simp only [Lit.wf, Bool.and_eq_true, decide_eq_true_eq, m1, m2] at h
  refine ⟨UInt8.ofNat n.toNat, ?_⟩
  rw [UInt8.toNat_ofNat']
  omega
theorem reads_Byte (W : World) : Reads Try.prog W 5 fun ds => ∃ b : UInt8, ds = [.v (.int .u8 (b.toNat : Int))] ∧ True :=
  (reads_int Try.underlying5).mono fun ds ⟨n, h1, h2⟩ => let ⟨b, hb⟩ := byte_of h2; ⟨b, by rw [h1, hb], trivial⟩
theorem reads_Bytes (W : World) : Reads Try.prog W 102 fun ds => ∃ l : List UInt8, ds = [.list (bytesC l)] ∧ l.length ≤ 140737488351232 :=
  (reads_slice (sz := 1) (by_ := 1) Try.underlying102 (by kernel_rfl) (by kernel_rfl) (by decide) (reads_Byte W)).mono (by
    rintro ds ⟨xs, rfl, h1, h2, h3, h4⟩
    obtain ⟨l, rfl, hl⟩ := choose_map xs h1
    exact ⟨l, rfl, by simpa using h4⟩)
end Go.Proofs.Ytealonjmkcfneaa
