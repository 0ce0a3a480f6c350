/-
  The row of RaceSwaps: for every input the law answers true, and the input reads as it did.
-/
import Derived.Test.YtobdagjdhgjplaaRows
import Derived.Test.YtobdagjdhgjplaaLibB
import Derived.Test.YtobdagjdhgjplaaReadE
import Derived.Test.YtobdagjdhgjplaaRcM
import Derived.WalkKit
import Derived.ProofKit
import Derived.OpenShut
import Derived.ShutString
import Derived.ChangeOld
import Derived.Below
import Derived.SizedLaws
namespace Go.Proofs.Ytobdagjdhgjplaa.raceSwaps
open Go Go.Sn Go.ChangeShapes Go.WideShapes Go.ChangeAt Go.RowKit
set_option linter.unusedVariables false
set_option linter.unusedSimpArgs false
theorem own : ownKnob Try.prog.godebug = none := by kernel_rfl
theorem laidOut : laidOutB Try.prog = true := by kernel_rfl
set_option maxRecDepth 100000 in
theorem lifted (os : Os) (started : os.Started) (H : Type) (enc : TypeId × Value → H) :
    ReturnsInHanded {} Try.checked os 11 .any (Rows.raceSwapsSpec.pre6 enc Try.prog Try.f11 Rows.raceSwapsRow.domain false) (Rows.raceSwapsSpec.post enc Try.prog Try.f11 false true false false) := by
  refine returnsInHanded_of_change_sized (C := Try.checked) own started (by kernel_rfl) Try.func11
    (ChangeSpec.witness6 (enc := enc) (C := Try.checked) false ⟨#[], #[.slice none 0 0, .int .i64 0], []⟩ 8 (by kernel_rfl) (by kernel_rfl) (by kernel_rfl) (by kernel_rfl)) ?_
  intro W base args ds gs before hval0 hW hcnd hsz0 _
  have hsz : (DataW.weightsEach Try.prog (Try.f11.params.toList ++ Rows.raceSwapsSpec.plain.varTypes Try.prog) (ds ++ gs)).all (· ≤ reachBytes) = true := hsz0
  have hval : ∀ (j : Nat) t v, Try.f11.params[j]? = some t → args[j]? = some v → Value.okWide Try.prog W .any base t v := hval0
  have hW' := hW
  obtain ⟨p, q, hA0, hV, rfl, hfz, hnd⟩ := hW
  have hA : DataW.TrodAll enc Try.prog W 0 (fun _ => true) true Try.f11.params.toList args.toList ds p := hA0
  rw [Try.params11] at hA hval hsz
  obtain ⟨v0, vs0, d0, ds0, p0, q0, hargs, rfl, rfl, h0, r0⟩ := trodAll_cons hA
  obtain ⟨v1, vs1, d1, ds1, p1, q1, rfl, rfl, rfl, h1, r1⟩ := trodAll_cons r0
  obtain ⟨rfl, rfl, rfl⟩ := trodAll_nil r1
  obtain rfl : args = #[v0, v1] := by cases args; simp_all
  obtain ⟨rfl, rfl⟩ := trodVars_none hV
  have lt0 : ∀ x ∈ p0, x.block < W.heap.size := by obtain ⟨m, hm⟩ := h0; exact DataW.trod_lt m _ _ _ hm
  have hw0 := weights_each (i := 0) (t := 41) hsz rfl rfl
  have one0 := okWide_one (.inr (.inr (.inr ⟨_, Try.underlying41⟩))) (hval 0 41 v0 rfl rfl)
  obtain ⟨y0, rep0, a0, eq0, ok0⟩ := reads_arg1 (reads_Events W) one0 (by kernel_rfl) h0 hw0
  obtain rfl := (List.cons.inj eq0).1
  have lt1 : ∀ x ∈ p1, x.block < W.heap.size := by obtain ⟨m, hm⟩ := h1; exact DataW.trod_lt m _ _ _ hm
  have hw1 := weights_each (i := 1) (t := 3) hsz rfl rfl
  have one1 := okWide_one (.inl ⟨_, Try.underlying3⟩) (hval 1 3 v1 rfl rfl)
  obtain ⟨y1, rep1, a1, eq1, ok1⟩ := reads_arg1 (reads_Int W) one1 (by kernel_rfl) h1 hw1
  obtain rfl := (List.cons.inj eq1).1
  clear hA0 hval0 hsz0 hsz
  refine (CallA.law (raceSwaps_call W _ a0 a1) (Reps.cons rep0 (Reps.cons rep1 (Reps.nil _)))).mono fun e W' ⟨he, bel⟩ => ?_
  subst he
  exact ⟨_, rfl, _, _, _, [], _, [], hW', trodAll_mk1 (shut_bool Try.underlying4 _), (trodAll_cons_mk (Below.trod laidOut (by kernel_rfl) (of_decide_eq_true (by kernel_rfl)) h0 bel lt0) (trodAll_cons_mk (Below.trod laidOut (by kernel_rfl) (of_decide_eq_true (by kernel_rfl)) h1 bel lt1) trodAll_mk0)), rfl, bel.frame _, fun h => by cases h⟩
theorem over : Rows.raceSwapsRow.holds Try.pinned (OpenSpec.ofChange Rows.raceSwapsSpec) :=
  OpenClaim.holds_of_wide 11 Try.f11 rfl rfl rfl rfl rfl rfl rfl ⟨rfl, rfl, rfl, rfl, rfl⟩ rfl rfl rfl rfl rfl (by kernel_rfl) Try.func11 (by kernel_rfl)
    (of_decide_eq_true (by kernel_rfl)) (by unfold Func.isWrapper; first | (rw [if_pos (by decide +kernel)]; kernel_rfl) | (rw [if_neg (by decide +kernel)]; exact ⟨rfl, rfl⟩))
    (fun os started H enc _ => lifted os started H enc)
theorem proved : Rows.RaceSwapsSaid := over
#print axioms proved
end Go.Proofs.Ytobdagjdhgjplaa.raceSwaps
namespace Go.Proofs.Ytobdagjdhgjplaa
/-- The row, under a short name, for the claim. -/
theorem raceSwaps_holds : Rows.RaceSwapsSaid := raceSwaps.proved
end Go.Proofs.Ytobdagjdhgjplaa

