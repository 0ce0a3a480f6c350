/-
  Rows of events in cells of ours.
-/
import Derived.Test.YtobdagjdhgjplaaEvD
import Derived.Test.YtobdagjdhgjplaaLibB
set_option linter.unusedSimpArgs false
set_option linter.unusedVariables false
namespace Go.Proofs.Ytobdagjdhgjplaa
open Go Go.Sn Go.RowKit

theorem evs_put (L : List Ev) (rest : List D) {i : Nat} (hi : i < L.length) (x : Ev) :
    ((evsC L).flatten ++ rest).take (i * 4) ++ evC x ++ ((evsC L).flatten ++ rest).drop (i * 4 + 4) = (evsC (L.set i x)).flatten ++ rest := by
  rw [row_put (evsC L) rest (evsC_all L) (by rw [evsC_length]; exact hi)]
  simp [evsC]
theorem evs_elem (L : List Ev) (rest : List D) {i : Nat} (hi : i < L.length) : (((evsC L).flatten ++ rest).drop (i * 4)).take 4 = evC (L.getD i default) := by
  rw [row_elem (evsC L) rest (evsC_all L) (by rw [evsC_length]; exact hi), evsC_get _ _ hi]
theorem evs_th (L : List Ev) (rest : List D) {i : Nat} (hi : i < L.length) : ((evsC L).flatten ++ rest).getD (i * 4) default = .v (.int .i64 (L.getD i default).th) := by
  have h := congrArg (fun x : List D => x.getD 0 default) (evs_elem L rest hi)
  simp only [evC_get0] at h
  rw [← h]
  simp [List.getD_eq_getElem?_getD, List.getElem?_take, List.getElem?_drop]
theorem evs_len (L : List Ev) (rest : List D) : ((evsC L).flatten ++ rest).length = L.length * 4 + rest.length := by
  rw [List.length_append, elems_all (evsC_all L), evsC_length]
end Go.Proofs.Ytobdagjdhgjplaa
