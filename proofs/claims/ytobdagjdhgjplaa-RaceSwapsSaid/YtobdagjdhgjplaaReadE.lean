/-
  Arguments as the laws of events take them: events, rows of events, rows of whole numbers, bytes, texts.
-/
import Derived.Test.YtobdagjdhgjplaaReadB
import Derived.Test.YtobdagjdhgjplaaEvD
set_option linter.unusedSimpArgs false
set_option linter.unusedVariables false
namespace Go.Proofs.Ytobdagjdhgjplaa
open Go Go.Sn


def okEv (e : Ev) : Prop := okI e.th ∧ okI e.kd ∧ okI e.ob


theorem reads_Event (W : World) : Reads Try.prog W 55 fun ds => ∃ e : Ev, ds = evC e ∧ okEv e :=
  (reads_struct (n := 4) Try.underlying55 rfl (by kernel_rfl) (readsF_cons (sz := 1) rfl (by kernel_rfl) (by decide) (reads_int Try.underlying3) (readsF_cons (sz := 1) rfl (by kernel_rfl) (by decide) (reads_int Try.underlying3)
    (readsF_cons (sz := 1) rfl (by kernel_rfl) (by decide) (reads_int Try.underlying3) (readsF_cons (sz := 1) rfl (by kernel_rfl) (by decide) (reads_bool Try.underlying4) readsF_nil))))).mono (by
      rintro ds ⟨_, _, rfl, ⟨a, rfl, ha⟩, _, _, rfl, ⟨b, rfl, hb⟩, _, _, rfl, ⟨c, rfl, hc⟩, _, _, rfl, ⟨d, rfl⟩, rfl⟩
      exact ⟨⟨a, b, c, d⟩, rfl, ha, hb, hc⟩)

theorem reads_Events (W : World) : Reads Try.prog W 41 fun ds => ∃ l : List Ev, ds = [.list (evsC l)] ∧ l.length * 32 ≤ 140737488351232 ∧ ∀ e ∈ l, okEv e :=
  (reads_slice (sz := 4) (by_ := 32) Try.underlying41 (by kernel_rfl) (by kernel_rfl) (by decide) (reads_Event W)).mono (by
    rintro ds ⟨xs, rfl, h1, h2, h3, h4⟩
    obtain ⟨l, rfl, hl⟩ := choose_map xs h1
    exact ⟨l, rfl, by simpa using h4, hl⟩)

end Go.Proofs.Ytobdagjdhgjplaa
