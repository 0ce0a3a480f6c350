/-
  Contracts: rows that are the same, by their clocks.
-/
import Derived.Test.YtobdagjdhgjplaaClkAS
import Derived.DeepKeys5
set_option linter.unusedSimpArgs false
set_option linter.unusedVariables false
namespace Go.Proofs.Ytobdagjdhgjplaa
open Go Go.Sn Go.RowKit

def kcP (p : Int × Int) : Value := .agg #[.int .i64 p.1, .int .i64 p.2]
def okP (p : Int × Int) : Prop := (Lit.int .i64 p.1).wf = true ∧ (Lit.int .i64 p.2).wf = true
theorem kcP_inj (a b : Int × Int) (h : kcP a = kcP b) : a = b := by
  unfold kcP at h
  simp only [Value.agg.injEq, Array.mk.injEq, List.cons.injEq, Value.int.injEq, true_and, and_true] at h
  exact Prod.ext h.1 h.2
theorem laidOutT : laidOutB Try.prog = true := by kernel_rfl
theorem point_keyed : Maps.Keyed Try.prog 113 :=
  Maps.Keyed.of_law (deep_law_gate laidOutT (by decide +kernel) (by decide +kernel) (by kernel_rfl) (by rw [Try.underlying113]))
theorem point_key (p : Int × Int) (h : okP p) : ∃ l, keyOf Try.prog 113 (kcP p) = some l := by
  obtain ⟨a, b⟩ := p
  obtain ⟨h1, h2⟩ := h
  have k1 : Try.prog.keyType 113 = true := by kernel_rfl
  have k2 : Try.prog.cellsOf 113 = 2 := by kernel_rfl
  have k3 : Try.prog.cellsOf 3 = 1 := by kernel_rfl
  have hpos : 1 ≤ Try.prog.types.size := by decide +kernel
  obtain ⟨n, hn⟩ : ∃ n, Try.prog.types.size = n + 1 := ⟨Try.prog.types.size - 1, by omega⟩
  have k4 : (kcP (a, b)).formed Try.prog 113 = true := by simp [kcP, Value.formed, Try.underlying113, k2]
  have k5 : ∀ x : Int, (Lit.int .i64 x).wf = true → Try.prog.keyLits (n + 1) 3 [.int .i64 x] = some [.int .i64 x] := by
    intro x hx
    simp [Program.keyLits, Try.underlying3, hx]
  have k6 : ∃ ls, Try.prog.keyLits (Try.prog.types.size + 1) 113 [.int .i64 a, .int .i64 b] = some ls := by
    rw [hn]
    unfold Program.keyLits
    simp [Try.underlying113, k2, k3, k5 a h1, k5 b h2]
  obtain ⟨ls, k6⟩ := k6
  refine ⟨.string (keyBytes ls), ?_⟩
  unfold keyOf
  simp only [Try.underlying113, k1, k4, Bool.and_self, if_true]
  show (Try.prog.keyLits (Try.prog.types.size + 1) 113 [.int .i64 a, .int .i64 b]).map _ = _
  rw [k6]
  rfl
def clC (c : List Int) : D := .agg (iC c)
def eC (e : Ev) : D := .agg (evC e)
@[go_sem] theorem clC_eq (c : List Int) : clC c = .agg (iC c) := rfl
@[go_sem] theorem eC_eq (e : Ev) : eC e = .agg (evC e) := rfl
theorem mtKnown : MT Try.prog 107 kcP clC okP [0, 0, 0, 0] :=
  ⟨⟨113, 111, Try.underlying107, point_keyed, point_key, by kernel_rfl⟩, kcP_inj⟩
theorem mtWhat : MT Try.prog 108 kcP eC okP ev0 :=
  ⟨⟨113, 55, Try.underlying108, point_keyed, point_key, by kernel_rfl⟩, kcP_inj⟩
end Go.Proofs.Ytobdagjdhgjplaa
