/-
  The row of TreePlays: for every input the law answers true, and the input reads as it did.
-/
import Derived.Test.YtcfeklnmampndaaRows
import Derived.Test.YtcfeklnmampndaaLibB
import Derived.Test.YtcfeklnmampndaaReadP
import Derived.Test.YtcfeklnmampndaaReadO
import Derived.Test.YtcfeklnmampndaaTsL
import Derived.WalkKit
import Derived.ProofKit
import Derived.OpenShut
import Derived.ShutString
import Derived.ChangeOld
import Derived.Below
import Derived.SizedLaws
namespace Go.Proofs.Ytcfeklnmampndaa.treePlays
open Go Go.Sn Go.ChangeShapes Go.WideShapes Go.ChangeAt Go.RowKit
set_option linter.unusedVariables false
set_option linter.unusedSimpArgs false
theorem own : ownKnob Try.prog.godebug = none := by kernel_rfl
theorem laidOut : laidOutB Try.prog = true := by kernel_rfl
set_option maxRecDepth 100000 in
theorem lifted (os : Os) (started : os.Started) (H : Type) (enc : TypeId × Value → H) :
    ReturnsInHanded {} Try.checked os 3 .any (Rows.treePlaysSpec.pre6 enc Try.prog Try.f3 Rows.treePlaysRow.domain false) (Rows.treePlaysSpec.post enc Try.prog Try.f3 false true false false) := by
  refine returnsInHanded_of_change_sized (C := Try.checked) own started (by kernel_rfl) Try.func3
    (ChangeSpec.witness6 (enc := enc) (C := Try.checked) false ⟨#[], #[.agg #[.int .i64 0, .int .i64 0, .slice none 0 0], .int .i64 0, .slice none 0 0], []⟩ 8 (by kernel_rfl) (by kernel_rfl) (by kernel_rfl) (by kernel_rfl)) ?_
  intro W base args ds gs before hval0 hW hcnd hsz0 _
  have hsz : (DataW.weightsEach Try.prog (Try.f3.params.toList ++ Rows.treePlaysSpec.plain.varTypes Try.prog) (ds ++ gs)).all (· ≤ reachBytes) = true := hsz0
  have hval : ∀ (j : Nat) t v, Try.f3.params[j]? = some t → args[j]? = some v → Value.okWide Try.prog W .any base t v := hval0
  have hW' := hW
  obtain ⟨p, q, hA0, hV, rfl, hfz, hnd⟩ := hW
  have hA : DataW.TrodAll enc Try.prog W 0 (fun _ => true) true Try.f3.params.toList args.toList ds p := hA0
  rw [Try.params3] at hA hval hsz
  obtain ⟨v0, vs0, d0, ds0, p0, q0, hargs, rfl, rfl, h0, r0⟩ := trodAll_cons hA
  obtain ⟨v1, vs1, d1, ds1, p1, q1, rfl, rfl, rfl, h1, r1⟩ := trodAll_cons r0
  obtain ⟨v2, vs2, d2, ds2, p2, q2, rfl, rfl, rfl, h2, r2⟩ := trodAll_cons r1
  obtain ⟨rfl, rfl, rfl⟩ := trodAll_nil r2
  obtain rfl : args = #[v0, v1, v2] := by cases args; simp_all
  obtain ⟨rfl, rfl⟩ := trodVars_none hV
  have lt0 : ∀ x ∈ p0, x.block < W.heap.size := by obtain ⟨m, hm⟩ := h0; exact DataW.trod_lt m _ _ _ hm
  have hw0 := weights_each (i := 0) (t := 24) hsz rfl rfl
  obtain ⟨cs0, rfl, sz0⟩ := okWide_structS Try.underlying24 (hval 0 24 v0 rfl rfl)
  obtain ⟨y0, rep0, a0, rfl, ok0⟩ := reads_argS (reads_Prog W) sz0 h0 hw0
  have lt1 : ∀ x ∈ p1, x.block < W.heap.size := by obtain ⟨m, hm⟩ := h1; exact DataW.trod_lt m _ _ _ hm
  have hw1 := weights_each (i := 1) (t := 3) hsz rfl rfl
  have one1 := okWide_one (.inl ⟨_, Try.underlying3⟩) (hval 1 3 v1 rfl rfl)
  obtain ⟨y1, rep1, a1, eq1, ok1⟩ := reads_arg1 (reads_Int W) one1 (by kernel_rfl) h1 hw1
  obtain rfl := (List.cons.inj eq1).1
  have lt2 : ∀ x ∈ p2, x.block < W.heap.size := by obtain ⟨m, hm⟩ := h2; exact DataW.trod_lt m _ _ _ hm
  have hw2 := weights_each (i := 2) (t := 25) hsz rfl rfl
  have one2 := okWide_one (.inr (.inr (.inr ⟨_, Try.underlying25⟩))) (hval 2 25 v2 rfl rfl)
  obtain ⟨y2, rep2, a2, eq2, ok2⟩ := reads_arg1 (reads_Ops W) one2 (by kernel_rfl) h2 hw2
  obtain rfl := (List.cons.inj eq2).1
  clear hA0 hval0 hsz0 hsz
  refine (CallA.law (treePlays_call W _ a0 a1 a2 ok0.len ok2) (Reps.cons rep0 (Reps.cons rep1 (Reps.cons rep2 (Reps.nil _))))).mono fun e W' ⟨he, bel⟩ => ?_
  subst he
  exact ⟨_, rfl, _, _, _, [], _, [], hW', trodAll_mk1 (shut_bool Try.underlying4 _), (trodAll_cons_mk (Below.trod laidOut (by kernel_rfl) (of_decide_eq_true (by kernel_rfl)) h0 bel lt0) (trodAll_cons_mk (Below.trod laidOut (by kernel_rfl) (of_decide_eq_true (by kernel_rfl)) h1 bel lt1) (trodAll_cons_mk (Below.trod laidOut (by kernel_rfl) (of_decide_eq_true (by kernel_rfl)) h2 bel lt2) trodAll_mk0))), rfl, bel.frame _, fun h => by cases h⟩
theorem over : Rows.treePlaysRow.holds Try.pinned (OpenSpec.ofChange Rows.treePlaysSpec) :=
  OpenClaim.holds_of_wide 3 Try.f3 rfl rfl rfl rfl rfl rfl rfl ⟨rfl, rfl, rfl, rfl, rfl⟩ rfl rfl rfl rfl rfl (by kernel_rfl) Try.func3 (by kernel_rfl)
    (of_decide_eq_true (by kernel_rfl)) (by unfold Func.isWrapper; first | (rw [if_pos (by decide +kernel)]; kernel_rfl) | (rw [if_neg (by decide +kernel)]; exact ⟨rfl, rfl⟩))
    (fun os started H enc _ => lifted os started H enc)
theorem proved : Rows.TreePlaysSaid := over
#print axioms proved
end Go.Proofs.Ytcfeklnmampndaa.treePlays
namespace Go.Proofs.Ytcfeklnmampndaa
/-- The row, under a short name, for the claim. -/
theorem treePlays_holds : Rows.TreePlaysSaid := treePlays.proved
end Go.Proofs.Ytcfeklnmampndaa

