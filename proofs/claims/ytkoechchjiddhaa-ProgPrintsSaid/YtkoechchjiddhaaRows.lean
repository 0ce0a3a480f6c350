/-
  No cell of these rows narrows 'for every input' (looked for: loops, veiled, ifaces, maps, wideKeys, modest, calm, conditions, laid).
  DERIVED. THE GIVEN ROWS OF THIS SEAT. 6 by the template 'for every input the law returns true; each argument reads behind the call as it read before'; 0 by the template 'total and deterministic' (their statements: YtkoechchjiddhaaTotals.lean).
  GIVEN WITH THE SEED: the statements are not yours to turn. If you find one false, say at which input.
  Laid BY PROGRAM, IN A SANDBOX (cutbox-rows.mjs): the forced cells as the released guide's own fill.sh prints them over the translation ccbce062e2d7dae6… (all of the seat's roots in one cut). By AI agents, Wed Nov 11 2026. No macro, syntax, notation, axiom, sorry.
-/
import Derived.Test.YtkoechchjiddhaaChecked
import GoSem.Claim
import GoSem.ClaimJoined
import GoSem.ClaimMapViews
import Derived.JoinedTies
import Derived.KernelRfl
namespace Go.Proofs.Ytkoechchjiddhaa
/- THE CELL 'sum', in the pinned program and in every row, IS THE sha256 OF THE DUMP (.gsa) THAT YtkoechchjiddhaaProg.lean LOADS. Nothing in Lean hashes anything: it is a label: what it is worth is what the hold of that sum in a sandbox is worth. -/
noncomputable def Try.pinned : Pinned := { name := "ytkoechchjiddhaa", sum := "ccbce062e2d7dae65d03899490f6f11e6e49abe18221fcae966bfa8c3f82ada7", checked := Try.checked }
namespace Rows
def none {H : Type} : Left H := { results := [], args := [] }

/-- 'sinnetlaw01.ProgPrints': WHATEVER THE INPUT: true; the input reads as it did. -/
def progPrintsSpec : ChangeSpec := { name := "progPrints", fn := fun _ => fun
  | [d] => { results := [.lit (.bool true)], args := [d] }
  | _ => none }
def progPrintsRow : OpenClaim := { program := "ytkoechchjiddhaa", sum := "ccbce062e2d7dae65d03899490f6f11e6e49abe18221fcae966bfa8c3f82ada7", func := "sinnet/sinnetlaw01.ProgPrints", spec := "progPrints", unfollowed := true, recurses := true, apart := false }
def ProgPrintsSaid : Prop := progPrintsRow.holds Try.pinned (OpenSpec.ofChange progPrintsSpec)

/-- ITS FALSE NEIGHBOUR: 'it returns false'. Refute it at one input. -/
def progPrintsWrong : ChangeSpec := { name := "progPrints", fn := fun _ => fun
  | [d] => { results := [.lit (.bool false)], args := [d] }
  | _ => none }
def ProgPrintsWrongFalsely : Prop := progPrintsRow.holds Try.pinned (OpenSpec.ofChange progPrintsWrong)

/-- 'sinnetlaw01.ProgReads': WHATEVER THE INPUT: true; the input reads as it did. -/
def progReadsSpec : ChangeSpec := { name := "progReads", fn := fun _ => fun
  | [d] => { results := [.lit (.bool true)], args := [d] }
  | _ => none }
def progReadsRow : OpenClaim := { program := "ytkoechchjiddhaa", sum := "ccbce062e2d7dae65d03899490f6f11e6e49abe18221fcae966bfa8c3f82ada7", func := "sinnet/sinnetlaw01.ProgReads", spec := "progReads", unfollowed := true, recurses := true, apart := false }
def ProgReadsSaid : Prop := progReadsRow.holds Try.pinned (OpenSpec.ofChange progReadsSpec)

/-- ITS FALSE NEIGHBOUR: 'it returns false'. Refute it at one input. -/
def progReadsWrong : ChangeSpec := { name := "progReads", fn := fun _ => fun
  | [d] => { results := [.lit (.bool false)], args := [d] }
  | _ => none }
def ProgReadsWrongFalsely : Prop := progReadsRow.holds Try.pinned (OpenSpec.ofChange progReadsWrong)

/-- 'sinnetlaw01.ProgOne': WHATEVER THE INPUT: true; the input reads as it did. -/
def progOneSpec : ChangeSpec := { name := "progOne", fn := fun _ => fun
  | [d1, d2, d3] => { results := [.lit (.bool true)], args := [d1, d2, d3] }
  | _ => none }
def progOneRow : OpenClaim := { program := "ytkoechchjiddhaa", sum := "ccbce062e2d7dae65d03899490f6f11e6e49abe18221fcae966bfa8c3f82ada7", func := "sinnet/sinnetlaw01.ProgOne", spec := "progOne", unfollowed := true, recurses := true, apart := false }
def ProgOneSaid : Prop := progOneRow.holds Try.pinned (OpenSpec.ofChange progOneSpec)

/-- ITS FALSE NEIGHBOUR: 'it returns false'. Refute it at one input. -/
def progOneWrong : ChangeSpec := { name := "progOne", fn := fun _ => fun
  | [d1, d2, d3] => { results := [.lit (.bool false)], args := [d1, d2, d3] }
  | _ => none }
def ProgOneWrongFalsely : Prop := progOneRow.holds Try.pinned (OpenSpec.ofChange progOneWrong)

/-- 'sinnetlaw01.ProgSizes': WHATEVER THE INPUT: true; the input reads as it did. -/
def progSizesSpec : ChangeSpec := { name := "progSizes", fn := fun _ => fun
  | [d] => { results := [.lit (.bool true)], args := [d] }
  | _ => none }
def progSizesRow : OpenClaim := { program := "ytkoechchjiddhaa", sum := "ccbce062e2d7dae65d03899490f6f11e6e49abe18221fcae966bfa8c3f82ada7", func := "sinnet/sinnetlaw01.ProgSizes", spec := "progSizes", unfollowed := true, recurses := true, apart := false }
def ProgSizesSaid : Prop := progSizesRow.holds Try.pinned (OpenSpec.ofChange progSizesSpec)

/-- ITS FALSE NEIGHBOUR: 'it returns false'. Refute it at one input. -/
def progSizesWrong : ChangeSpec := { name := "progSizes", fn := fun _ => fun
  | [d] => { results := [.lit (.bool false)], args := [d] }
  | _ => none }
def ProgSizesWrongFalsely : Prop := progSizesRow.holds Try.pinned (OpenSpec.ofChange progSizesWrong)

/-- 'sinnetlaw01.ProgLess': WHATEVER THE INPUT: true; the input reads as it did. -/
def progLessSpec : ChangeSpec := { name := "progLess", fn := fun _ => fun
  | [d] => { results := [.lit (.bool true)], args := [d] }
  | _ => none }
def progLessRow : OpenClaim := { program := "ytkoechchjiddhaa", sum := "ccbce062e2d7dae65d03899490f6f11e6e49abe18221fcae966bfa8c3f82ada7", func := "sinnet/sinnetlaw01.ProgLess", spec := "progLess", unfollowed := true, recurses := true, apart := false }
def ProgLessSaid : Prop := progLessRow.holds Try.pinned (OpenSpec.ofChange progLessSpec)

/-- ITS FALSE NEIGHBOUR: 'it returns false'. Refute it at one input. -/
def progLessWrong : ChangeSpec := { name := "progLess", fn := fun _ => fun
  | [d] => { results := [.lit (.bool false)], args := [d] }
  | _ => none }
def ProgLessWrongFalsely : Prop := progLessRow.holds Try.pinned (OpenSpec.ofChange progLessWrong)

/-- 'sinnetlaw01.ProgTurned': WHATEVER THE INPUT: true; the input reads as it did. -/
def progTurnedSpec : ChangeSpec := { name := "progTurned", fn := fun _ => fun
  | [d] => { results := [.lit (.bool true)], args := [d] }
  | _ => none }
def progTurnedRow : OpenClaim := { program := "ytkoechchjiddhaa", sum := "ccbce062e2d7dae65d03899490f6f11e6e49abe18221fcae966bfa8c3f82ada7", func := "sinnet/sinnetlaw01.ProgTurned", spec := "progTurned", unfollowed := true, recurses := true, apart := false }
def ProgTurnedSaid : Prop := progTurnedRow.holds Try.pinned (OpenSpec.ofChange progTurnedSpec)

/-- ITS FALSE NEIGHBOUR: 'it returns false'. Refute it at one input. -/
def progTurnedWrong : ChangeSpec := { name := "progTurned", fn := fun _ => fun
  | [d] => { results := [.lit (.bool false)], args := [d] }
  | _ => none }
def ProgTurnedWrongFalsely : Prop := progTurnedRow.holds Try.pinned (OpenSpec.ofChange progTurnedWrong)

/- THE SECOND FORM. 'bulk': how many values and letters a reading holds, each counted each time it is reached (what is shared counts as often as it is met; a slice's spare places count too). A statement '..UptoSaid' is the law's where the arguments, and the package variables that the reading takes, are together of bulk at most 1048576: NARROWER than '..Said'. Prove '..Said' where nothing that the law and all that it calls make is longer than what came in: it says more and counts as full. Else prove '..UptoSaid'. A law counts once. -/
mutual
def uptoBulk {H : Type} : DataW H → Nat
  | .lit (.string bytes) => bytes.length + 1
  | .lit _ => 1
  | .nil => 1
  | .ptr d => uptoBulk d + 1
  | .slice elems spare => uptoBulkAll elems + uptoBulkAll spare + 1
  | .agg parts => uptoBulkAll parts + 1
  | .iface _ d => uptoBulk d + 1
  | .map entries => uptoBulkEntries entries + 1
  | .held _ => 1
def uptoBulkAll {H : Type} : List (DataW H) → Nat
  | [] => 0
  | d :: r => uptoBulk d + uptoBulkAll r
def uptoBulkEntries {H : Type} : List (Lit × DataW H) → Nat
  | [] => 0
  | x :: r => uptoBulkEntry x + uptoBulkEntries r
def uptoBulkEntry {H : Type} : Lit × DataW H → Nat
  | (.string bytes, d) => bytes.length + uptoBulk d + 1
  | (_, d) => uptoBulk d + 1
 end
def uptoSmall : (H : Type) → List (DataW H) → Bool := fun _ ds => decide (uptoBulkAll ds ≤ 1048576)
def OpenSpec.upto (s : _root_.Go.ChangeSpec) : _root_.Go.OpenSpec := { _root_.Go.OpenSpec.ofChange s with cond := some uptoSmall }

/-- 'sinnetlaw01.ProgPrints', WHERE WHAT IT READS IS OF BULK AT MOST 1048576: true; the input reads as it did. -/
def progPrintsUptoRow : OpenClaim := { program := "ytkoechchjiddhaa", sum := "ccbce062e2d7dae65d03899490f6f11e6e49abe18221fcae966bfa8c3f82ada7", func := "sinnet/sinnetlaw01.ProgPrints", spec := "progPrints", unfollowed := true, recurses := true, apart := false, narrowed := true }
def ProgPrintsUptoSaid : Prop := progPrintsUptoRow.holds Try.pinned (OpenSpec.upto progPrintsSpec)

/-- 'sinnetlaw01.ProgReads', WHERE WHAT IT READS IS OF BULK AT MOST 1048576: true; the input reads as it did. -/
def progReadsUptoRow : OpenClaim := { program := "ytkoechchjiddhaa", sum := "ccbce062e2d7dae65d03899490f6f11e6e49abe18221fcae966bfa8c3f82ada7", func := "sinnet/sinnetlaw01.ProgReads", spec := "progReads", unfollowed := true, recurses := true, apart := false, narrowed := true }
def ProgReadsUptoSaid : Prop := progReadsUptoRow.holds Try.pinned (OpenSpec.upto progReadsSpec)

/-- 'sinnetlaw01.ProgOne', WHERE WHAT IT READS IS OF BULK AT MOST 1048576: true; the input reads as it did. -/
def progOneUptoRow : OpenClaim := { program := "ytkoechchjiddhaa", sum := "ccbce062e2d7dae65d03899490f6f11e6e49abe18221fcae966bfa8c3f82ada7", func := "sinnet/sinnetlaw01.ProgOne", spec := "progOne", unfollowed := true, recurses := true, apart := false, narrowed := true }
def ProgOneUptoSaid : Prop := progOneUptoRow.holds Try.pinned (OpenSpec.upto progOneSpec)

/-- 'sinnetlaw01.ProgSizes', WHERE WHAT IT READS IS OF BULK AT MOST 1048576: true; the input reads as it did. -/
def progSizesUptoRow : OpenClaim := { program := "ytkoechchjiddhaa", sum := "ccbce062e2d7dae65d03899490f6f11e6e49abe18221fcae966bfa8c3f82ada7", func := "sinnet/sinnetlaw01.ProgSizes", spec := "progSizes", unfollowed := true, recurses := true, apart := false, narrowed := true }
def ProgSizesUptoSaid : Prop := progSizesUptoRow.holds Try.pinned (OpenSpec.upto progSizesSpec)

/-- 'sinnetlaw01.ProgLess', WHERE WHAT IT READS IS OF BULK AT MOST 1048576: true; the input reads as it did. -/
def progLessUptoRow : OpenClaim := { program := "ytkoechchjiddhaa", sum := "ccbce062e2d7dae65d03899490f6f11e6e49abe18221fcae966bfa8c3f82ada7", func := "sinnet/sinnetlaw01.ProgLess", spec := "progLess", unfollowed := true, recurses := true, apart := false, narrowed := true }
def ProgLessUptoSaid : Prop := progLessUptoRow.holds Try.pinned (OpenSpec.upto progLessSpec)

/-- 'sinnetlaw01.ProgTurned', WHERE WHAT IT READS IS OF BULK AT MOST 1048576: true; the input reads as it did. -/
def progTurnedUptoRow : OpenClaim := { program := "ytkoechchjiddhaa", sum := "ccbce062e2d7dae65d03899490f6f11e6e49abe18221fcae966bfa8c3f82ada7", func := "sinnet/sinnetlaw01.ProgTurned", spec := "progTurned", unfollowed := true, recurses := true, apart := false, narrowed := true }
def ProgTurnedUptoSaid : Prop := progTurnedUptoRow.holds Try.pinned (OpenSpec.upto progTurnedSpec)

end Rows
end Go.Proofs.Ytkoechchjiddhaa
