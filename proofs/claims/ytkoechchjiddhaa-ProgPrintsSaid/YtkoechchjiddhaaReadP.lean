/-
  Arguments as the laws of programs take them.
-/
import Derived.Test.YtkoechchjiddhaaReadB
import Derived.Test.YtkoechchjiddhaaPgAC
set_option linter.unusedSimpArgs false
set_option linter.unusedVariables false
namespace Go.Proofs.Ytkoechchjiddhaa
open Go Go.Sn

def okIn (i : In) : Prop := okI i.kd ∧ okI i.r ∧ okI i.x ∧ okI i.n
structure OkPg (p : Pg) : Prop where
  vs : okI p.vs
  ms : okI p.ms
  len : p.th.length ≤ 4000000000000000
  code : ∀ c ∈ p.th, c.length ≤ 4000000000000000 ∧ ∀ i ∈ c, okIn i

theorem reads_Instr (W : World) : Reads Try.prog W 34 fun ds => ∃ i : In, ds = inC i ∧ okIn i :=
  (reads_struct (n := 4) Try.underlying34 rfl (by kernel_rfl) (readsF_cons (sz := 1) rfl (by kernel_rfl) (by decide) (reads_int Try.underlying3) (readsF_cons (sz := 1) rfl (by kernel_rfl) (by decide) (reads_int Try.underlying3)
    (readsF_cons (sz := 1) rfl (by kernel_rfl) (by decide) (reads_int Try.underlying3) (readsF_cons (sz := 1) rfl (by kernel_rfl) (by decide) (reads_int Try.underlying2) readsF_nil))))).mono (by
      rintro ds ⟨_, _, rfl, ⟨a, rfl, ha⟩, _, _, rfl, ⟨b, rfl, hb⟩, _, _, rfl, ⟨c, rfl, hc⟩, _, _, rfl, ⟨d, rfl, hd⟩, rfl⟩
      exact ⟨⟨a, b, c, d⟩, rfl, ha, hb, hc, hd⟩)
theorem reads_Instrs (W : World) : Reads Try.prog W 32 fun ds => ∃ c : List In, ds = [.list (insC c)] ∧ c.length ≤ 4000000000000000 ∧ ∀ i ∈ c, okIn i :=
  (reads_slice (sz := 4) (by_ := 32) Try.underlying32 (by kernel_rfl) (by kernel_rfl) (by decide) (reads_Instr W)).mono (by
    rintro ds ⟨xs, rfl, h1, h2, h3, h4⟩
    obtain ⟨l, rfl, hl⟩ := choose_map xs h1
    refine ⟨l, rfl, ?_, hl⟩
    rw [List.length_map] at h4
    omega)
theorem reads_Threads (W : World) : Reads Try.prog W 22 fun ds => ∃ l : List (List In), ds = [.list (thsC l)] ∧ l.length ≤ 4000000000000000 ∧ ∀ c ∈ l, c.length ≤ 4000000000000000 ∧ ∀ i ∈ c, okIn i :=
  (reads_slice (sz := 1) (by_ := 24) Try.underlying22 (by kernel_rfl) (by kernel_rfl) (by decide) (reads_Instrs W)).mono (by
    rintro ds ⟨xs, rfl, h1, h2, h3, h4⟩
    obtain ⟨l, rfl, hl⟩ := choose_map xs h1
    refine ⟨l, rfl, ?_, hl⟩
    rw [List.length_map] at h4
    omega)
theorem reads_Prog (W : World) : Reads Try.prog W 24 fun ds => ∃ p : Pg, ds = pgC p ∧ OkPg p :=
  (reads_struct (n := 3) Try.underlying24 rfl (by kernel_rfl) (readsF_cons (sz := 1) rfl (by kernel_rfl) (by decide) (reads_int Try.underlying3) (readsF_cons (sz := 1) rfl (by kernel_rfl) (by decide) (reads_int Try.underlying3)
    (readsF_cons (sz := 1) rfl (by kernel_rfl) (by decide) (reads_Threads W) readsF_nil)))).mono (by
      rintro ds ⟨_, _, rfl, ⟨a, rfl, ha⟩, _, _, rfl, ⟨b, rfl, hb⟩, _, _, rfl, ⟨l, rfl, hl, hc⟩, rfl⟩
      exact ⟨⟨a, b, l⟩, rfl, ha, hb, hl, hc⟩)
end Go.Proofs.Ytkoechchjiddhaa
