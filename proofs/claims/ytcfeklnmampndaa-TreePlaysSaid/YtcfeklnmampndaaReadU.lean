/-
  What arguments read as: bytes.
-/
import Derived.Test.YtcfeklnmampndaaReadB
set_option linter.unusedSimpArgs false
set_option linter.unusedVariables false
namespace Go.Proofs.Ytcfeklnmampndaa
open Go Go.Sn Go.RowKit

theorem byte_of {n : Int} (h : (Lit.int .u8 n).wf = true) : ∃ b : UInt8, n = (b.toNat : Int) := by
  have m1 : IntKind.u8.min = 0 := rfl
  have m2 : IntKind.u8.max = 255 := rfl
  simp only [Lit.wf, Bool.and_eq_true, decide_eq_true_eq, m1, m2] at h
  refine ⟨UInt8.ofNat n.toNat, ?_⟩
  rw [UInt8.toNat_ofNat']
  omega
theorem reads_Byte (W : World) : Reads Try.prog W 5 fun ds => ∃ b : UInt8, ds = [.v (.int .u8 (b.toNat : Int))] ∧ True :=
  (reads_int Try.underlying5).mono fun ds ⟨n, h1, h2⟩ => let ⟨b, hb⟩ := byte_of h2; ⟨b, by rw [h1, hb], trivial⟩
end Go.Proofs.Ytcfeklnmampndaa
