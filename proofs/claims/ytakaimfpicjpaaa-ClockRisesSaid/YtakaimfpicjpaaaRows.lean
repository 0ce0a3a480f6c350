/-
  No cell of these rows narrows 'for every input' (looked for: loops, veiled, ifaces, maps, wideKeys, modest, calm, conditions, laid).
  DERIVED. THE GIVEN ROWS OF THIS SEAT. 9 by the template 'for every input the law returns true; each argument reads behind the call as it read before'; 0 by the template 'total and deterministic' (their statements: YtakaimfpicjpaaaTotals.lean).
  GIVEN WITH THE SEED: the statements are not yours to turn. If you find one false, say at which input.
  Laid BY PROGRAM, IN A SANDBOX (cutbox-rows.mjs): the forced cells as the released guide's own fill.sh prints them over the translation e7c48a0f20bd48e0… (all of the seat's roots in one cut). By AI agents, Wed Nov 11 2026. No macro, syntax, notation, axiom, sorry.
-/
import Derived.Test.YtakaimfpicjpaaaChecked
import GoSem.Claim
import GoSem.ClaimJoined
import GoSem.ClaimMapViews
import Derived.JoinedTies
import Derived.KernelRfl
namespace Go.Proofs.Ytakaimfpicjpaaa
/- THE CELL 'sum', in the pinned program and in every row, IS THE sha256 OF THE DUMP (.gsa) THAT YtakaimfpicjpaaaProg.lean LOADS. Nothing in Lean hashes anything: it is a label: what it is worth is what the hold of that sum in a sandbox is worth. -/
noncomputable def Try.pinned : Pinned := { name := "ytakaimfpicjpaaa", sum := "e7c48a0f20bd48e0e9ef6913f4a774d26c21e11c5c0650efb478809a518528e9", checked := Try.checked }
namespace Rows
def none {H : Type} : Left H := { results := [], args := [] }

/-- 'sinnetlaw03.EventBytes': WHATEVER THE INPUT: true; the input reads as it did. -/
def eventBytesSpec : ChangeSpec := { name := "eventBytes", fn := fun _ => fun
  | [d1, d2] => { results := [.lit (.bool true)], args := [d1, d2] }
  | _ => none }
def eventBytesRow : OpenClaim := { program := "ytakaimfpicjpaaa", sum := "e7c48a0f20bd48e0e9ef6913f4a774d26c21e11c5c0650efb478809a518528e9", func := "sinnet/sinnetlaw03.EventBytes", spec := "eventBytes", plainKeys := false, apart := false }
def EventBytesSaid : Prop := eventBytesRow.holds Try.pinned (OpenSpec.ofChange eventBytesSpec)

/-- ITS FALSE NEIGHBOUR: 'it returns false'. Refute it at one input. -/
def eventBytesWrong : ChangeSpec := { name := "eventBytes", fn := fun _ => fun
  | [d1, d2] => { results := [.lit (.bool false)], args := [d1, d2] }
  | _ => none }
def EventBytesWrongFalsely : Prop := eventBytesRow.holds Try.pinned (OpenSpec.ofChange eventBytesWrong)

/-- 'sinnetlaw03.EventReads': WHATEVER THE INPUT: true; the input reads as it did. -/
def eventReadsSpec : ChangeSpec := { name := "eventReads", fn := fun _ => fun
  | [d1, d2] => { results := [.lit (.bool true)], args := [d1, d2] }
  | _ => none }
def eventReadsRow : OpenClaim := { program := "ytakaimfpicjpaaa", sum := "e7c48a0f20bd48e0e9ef6913f4a774d26c21e11c5c0650efb478809a518528e9", func := "sinnet/sinnetlaw03.EventReads", spec := "eventReads", plainKeys := false, apart := false }
def EventReadsSaid : Prop := eventReadsRow.holds Try.pinned (OpenSpec.ofChange eventReadsSpec)

/-- ITS FALSE NEIGHBOUR: 'it returns false'. Refute it at one input. -/
def eventReadsWrong : ChangeSpec := { name := "eventReads", fn := fun _ => fun
  | [d1, d2] => { results := [.lit (.bool false)], args := [d1, d2] }
  | _ => none }
def EventReadsWrongFalsely : Prop := eventReadsRow.holds Try.pinned (OpenSpec.ofChange eventReadsWrong)

/-- 'sinnetlaw03.EventRoots': WHATEVER THE INPUT: true; the input reads as it did. -/
def eventRootsSpec : ChangeSpec := { name := "eventRoots", fn := fun _ => fun
  | [d1, d2] => { results := [.lit (.bool true)], args := [d1, d2] }
  | _ => none }
def eventRootsRow : OpenClaim := { program := "ytakaimfpicjpaaa", sum := "e7c48a0f20bd48e0e9ef6913f4a774d26c21e11c5c0650efb478809a518528e9", func := "sinnet/sinnetlaw03.EventRoots", spec := "eventRoots", unfollowed := true, recurses := true, plainKeys := false, apart := false }
def EventRootsSaid : Prop := eventRootsRow.holds Try.pinned (OpenSpec.ofChange eventRootsSpec)

/-- ITS FALSE NEIGHBOUR: 'it returns false'. Refute it at one input. -/
def eventRootsWrong : ChangeSpec := { name := "eventRoots", fn := fun _ => fun
  | [d1, d2] => { results := [.lit (.bool false)], args := [d1, d2] }
  | _ => none }
def EventRootsWrongFalsely : Prop := eventRootsRow.holds Try.pinned (OpenSpec.ofChange eventRootsWrong)

/-- 'sinnetlaw03.EventTells': WHATEVER THE INPUT: true; the input reads as it did. -/
def eventTellsSpec : ChangeSpec := { name := "eventTells", fn := fun _ => fun
  | [d1, d2] => { results := [.lit (.bool true)], args := [d1, d2] }
  | _ => none }
def eventTellsRow : OpenClaim := { program := "ytakaimfpicjpaaa", sum := "e7c48a0f20bd48e0e9ef6913f4a774d26c21e11c5c0650efb478809a518528e9", func := "sinnet/sinnetlaw03.EventTells", spec := "eventTells", plainKeys := false, apart := false }
def EventTellsSaid : Prop := eventTellsRow.holds Try.pinned (OpenSpec.ofChange eventTellsSpec)

/-- ITS FALSE NEIGHBOUR: 'it returns false'. Refute it at one input. -/
def eventTellsWrong : ChangeSpec := { name := "eventTells", fn := fun _ => fun
  | [d1, d2] => { results := [.lit (.bool false)], args := [d1, d2] }
  | _ => none }
def EventTellsWrongFalsely : Prop := eventTellsRow.holds Try.pinned (OpenSpec.ofChange eventTellsWrong)

/-- 'sinnetlaw04.ClockMore': WHATEVER THE INPUT: true; the input reads as it did. -/
def clockMoreSpec : ChangeSpec := { name := "clockMore", fn := fun _ => fun
  | [d1, d2, d3] => { results := [.lit (.bool true)], args := [d1, d2, d3] }
  | _ => none }
def clockMoreRow : OpenClaim := { program := "ytakaimfpicjpaaa", sum := "e7c48a0f20bd48e0e9ef6913f4a774d26c21e11c5c0650efb478809a518528e9", func := "sinnet/sinnetlaw04.ClockMore", spec := "clockMore", unfollowed := true, recurses := true, plainKeys := false, apart := false }
def ClockMoreSaid : Prop := clockMoreRow.holds Try.pinned (OpenSpec.ofChange clockMoreSpec)

/-- ITS FALSE NEIGHBOUR: 'it returns false'. Refute it at one input. -/
def clockMoreWrong : ChangeSpec := { name := "clockMore", fn := fun _ => fun
  | [d1, d2, d3] => { results := [.lit (.bool false)], args := [d1, d2, d3] }
  | _ => none }
def ClockMoreWrongFalsely : Prop := clockMoreRow.holds Try.pinned (OpenSpec.ofChange clockMoreWrong)

/-- 'sinnetlaw04.ClockOrder': WHATEVER THE INPUT: true; the input reads as it did. -/
def clockOrderSpec : ChangeSpec := { name := "clockOrder", fn := fun _ => fun
  | [d1, d2, d3, d4] => { results := [.lit (.bool true)], args := [d1, d2, d3, d4] }
  | _ => none }
def clockOrderRow : OpenClaim := { program := "ytakaimfpicjpaaa", sum := "e7c48a0f20bd48e0e9ef6913f4a774d26c21e11c5c0650efb478809a518528e9", func := "sinnet/sinnetlaw04.ClockOrder", spec := "clockOrder", unfollowed := true, recurses := true, plainKeys := false, apart := false }
def ClockOrderSaid : Prop := clockOrderRow.holds Try.pinned (OpenSpec.ofChange clockOrderSpec)

/-- ITS FALSE NEIGHBOUR: 'it returns false'. Refute it at one input. -/
def clockOrderWrong : ChangeSpec := { name := "clockOrder", fn := fun _ => fun
  | [d1, d2, d3, d4] => { results := [.lit (.bool false)], args := [d1, d2, d3, d4] }
  | _ => none }
def ClockOrderWrongFalsely : Prop := clockOrderRow.holds Try.pinned (OpenSpec.ofChange clockOrderWrong)

/-- 'sinnetlaw04.ClockRises': WHATEVER THE INPUT: true; the input reads as it did. -/
def clockRisesSpec : ChangeSpec := { name := "clockRises", fn := fun _ => fun
  | [d1, d2] => { results := [.lit (.bool true)], args := [d1, d2] }
  | _ => none }
def clockRisesRow : OpenClaim := { program := "ytakaimfpicjpaaa", sum := "e7c48a0f20bd48e0e9ef6913f4a774d26c21e11c5c0650efb478809a518528e9", func := "sinnet/sinnetlaw04.ClockRises", spec := "clockRises", unfollowed := true, recurses := true, plainKeys := false, apart := false }
def ClockRisesSaid : Prop := clockRisesRow.holds Try.pinned (OpenSpec.ofChange clockRisesSpec)

/-- ITS FALSE NEIGHBOUR: 'it returns false'. Refute it at one input. -/
def clockRisesWrong : ChangeSpec := { name := "clockRises", fn := fun _ => fun
  | [d1, d2] => { results := [.lit (.bool false)], args := [d1, d2] }
  | _ => none }
def ClockRisesWrongFalsely : Prop := clockRisesRow.holds Try.pinned (OpenSpec.ofChange clockRisesWrong)

/-- 'sinnetlaw04.ClockSame': WHATEVER THE INPUT: true; the input reads as it did. -/
def clockSameSpec : ChangeSpec := { name := "clockSame", fn := fun _ => fun
  | [d1, d2, d3] => { results := [.lit (.bool true)], args := [d1, d2, d3] }
  | _ => none }
def clockSameRow : OpenClaim := { program := "ytakaimfpicjpaaa", sum := "e7c48a0f20bd48e0e9ef6913f4a774d26c21e11c5c0650efb478809a518528e9", func := "sinnet/sinnetlaw04.ClockSame", spec := "clockSame", unfollowed := true, recurses := true, plainKeys := false, apart := false }
def ClockSameSaid : Prop := clockSameRow.holds Try.pinned (OpenSpec.ofChange clockSameSpec)

/-- ITS FALSE NEIGHBOUR: 'it returns false'. Refute it at one input. -/
def clockSameWrong : ChangeSpec := { name := "clockSame", fn := fun _ => fun
  | [d1, d2, d3] => { results := [.lit (.bool false)], args := [d1, d2, d3] }
  | _ => none }
def ClockSameWrongFalsely : Prop := clockSameRow.holds Try.pinned (OpenSpec.ofChange clockSameWrong)

/-- 'sinnetlaw04.ClockTells': WHATEVER THE INPUT: true; the input reads as it did. -/
def clockTellsSpec : ChangeSpec := { name := "clockTells", fn := fun _ => fun
  | [d1, d2, d3, d4] => { results := [.lit (.bool true)], args := [d1, d2, d3, d4] }
  | _ => none }
def clockTellsRow : OpenClaim := { program := "ytakaimfpicjpaaa", sum := "e7c48a0f20bd48e0e9ef6913f4a774d26c21e11c5c0650efb478809a518528e9", func := "sinnet/sinnetlaw04.ClockTells", spec := "clockTells", unfollowed := true, recurses := true, plainKeys := false, apart := false }
def ClockTellsSaid : Prop := clockTellsRow.holds Try.pinned (OpenSpec.ofChange clockTellsSpec)

/-- ITS FALSE NEIGHBOUR: 'it returns false'. Refute it at one input. -/
def clockTellsWrong : ChangeSpec := { name := "clockTells", fn := fun _ => fun
  | [d1, d2, d3, d4] => { results := [.lit (.bool false)], args := [d1, d2, d3, d4] }
  | _ => none }
def ClockTellsWrongFalsely : Prop := clockTellsRow.holds Try.pinned (OpenSpec.ofChange clockTellsWrong)

/- THE SECOND FORM. 'bulk': how many values and letters a reading holds, each counted each time it is reached (what is shared counts as often as it is met; a slice's spare places count too). A statement '..UptoSaid' is the law's where the arguments, and the package variables that the reading takes, are together of bulk at most 1048576: NARROWER than '..Said'. Prove '..Said' where nothing that the law and all that it calls make is longer than what came in: it says more and counts as full. Else prove '..UptoSaid'. A law counts once. -/
mutual
def uptoBulk {H : Type} : DataW H → Nat
  | .lit (.string bytes) => bytes.length + 1
  | .lit _ => 1
  | .nil => 1
  | .ptr d => uptoBulk d + 1
  | .slice elems spare => uptoBulkAll elems + uptoBulkAll spare + 1
  | .agg parts => uptoBulkAll parts + 1
  | .iface _ d => uptoBulk d + 1
  | .map entries => uptoBulkEntries entries + 1
  | .held _ => 1
def uptoBulkAll {H : Type} : List (DataW H) → Nat
  | [] => 0
  | d :: r => uptoBulk d + uptoBulkAll r
def uptoBulkEntries {H : Type} : List (Lit × DataW H) → Nat
  | [] => 0
  | x :: r => uptoBulkEntry x + uptoBulkEntries r
def uptoBulkEntry {H : Type} : Lit × DataW H → Nat
  | (.string bytes, d) => bytes.length + uptoBulk d + 1
  | (_, d) => uptoBulk d + 1
 end
def uptoSmall : (H : Type) → List (DataW H) → Bool := fun _ ds => decide (uptoBulkAll ds ≤ 1048576)
def OpenSpec.upto (s : _root_.Go.ChangeSpec) : _root_.Go.OpenSpec := { _root_.Go.OpenSpec.ofChange s with cond := some uptoSmall }

/-- 'sinnetlaw03.EventBytes', WHERE WHAT IT READS IS OF BULK AT MOST 1048576: true; the input reads as it did. -/
def eventBytesUptoRow : OpenClaim := { program := "ytakaimfpicjpaaa", sum := "e7c48a0f20bd48e0e9ef6913f4a774d26c21e11c5c0650efb478809a518528e9", func := "sinnet/sinnetlaw03.EventBytes", spec := "eventBytes", plainKeys := false, apart := false, narrowed := true }
def EventBytesUptoSaid : Prop := eventBytesUptoRow.holds Try.pinned (OpenSpec.upto eventBytesSpec)

/-- 'sinnetlaw03.EventReads', WHERE WHAT IT READS IS OF BULK AT MOST 1048576: true; the input reads as it did. -/
def eventReadsUptoRow : OpenClaim := { program := "ytakaimfpicjpaaa", sum := "e7c48a0f20bd48e0e9ef6913f4a774d26c21e11c5c0650efb478809a518528e9", func := "sinnet/sinnetlaw03.EventReads", spec := "eventReads", plainKeys := false, apart := false, narrowed := true }
def EventReadsUptoSaid : Prop := eventReadsUptoRow.holds Try.pinned (OpenSpec.upto eventReadsSpec)

/-- 'sinnetlaw03.EventRoots', WHERE WHAT IT READS IS OF BULK AT MOST 1048576: true; the input reads as it did. -/
def eventRootsUptoRow : OpenClaim := { program := "ytakaimfpicjpaaa", sum := "e7c48a0f20bd48e0e9ef6913f4a774d26c21e11c5c0650efb478809a518528e9", func := "sinnet/sinnetlaw03.EventRoots", spec := "eventRoots", unfollowed := true, recurses := true, plainKeys := false, apart := false, narrowed := true }
def EventRootsUptoSaid : Prop := eventRootsUptoRow.holds Try.pinned (OpenSpec.upto eventRootsSpec)

/-- 'sinnetlaw03.EventTells', WHERE WHAT IT READS IS OF BULK AT MOST 1048576: true; the input reads as it did. -/
def eventTellsUptoRow : OpenClaim := { program := "ytakaimfpicjpaaa", sum := "e7c48a0f20bd48e0e9ef6913f4a774d26c21e11c5c0650efb478809a518528e9", func := "sinnet/sinnetlaw03.EventTells", spec := "eventTells", plainKeys := false, apart := false, narrowed := true }
def EventTellsUptoSaid : Prop := eventTellsUptoRow.holds Try.pinned (OpenSpec.upto eventTellsSpec)

/-- 'sinnetlaw04.ClockMore', WHERE WHAT IT READS IS OF BULK AT MOST 1048576: true; the input reads as it did. -/
def clockMoreUptoRow : OpenClaim := { program := "ytakaimfpicjpaaa", sum := "e7c48a0f20bd48e0e9ef6913f4a774d26c21e11c5c0650efb478809a518528e9", func := "sinnet/sinnetlaw04.ClockMore", spec := "clockMore", unfollowed := true, recurses := true, plainKeys := false, apart := false, narrowed := true }
def ClockMoreUptoSaid : Prop := clockMoreUptoRow.holds Try.pinned (OpenSpec.upto clockMoreSpec)

/-- 'sinnetlaw04.ClockOrder', WHERE WHAT IT READS IS OF BULK AT MOST 1048576: true; the input reads as it did. -/
def clockOrderUptoRow : OpenClaim := { program := "ytakaimfpicjpaaa", sum := "e7c48a0f20bd48e0e9ef6913f4a774d26c21e11c5c0650efb478809a518528e9", func := "sinnet/sinnetlaw04.ClockOrder", spec := "clockOrder", unfollowed := true, recurses := true, plainKeys := false, apart := false, narrowed := true }
def ClockOrderUptoSaid : Prop := clockOrderUptoRow.holds Try.pinned (OpenSpec.upto clockOrderSpec)

/-- 'sinnetlaw04.ClockRises', WHERE WHAT IT READS IS OF BULK AT MOST 1048576: true; the input reads as it did. -/
def clockRisesUptoRow : OpenClaim := { program := "ytakaimfpicjpaaa", sum := "e7c48a0f20bd48e0e9ef6913f4a774d26c21e11c5c0650efb478809a518528e9", func := "sinnet/sinnetlaw04.ClockRises", spec := "clockRises", unfollowed := true, recurses := true, plainKeys := false, apart := false, narrowed := true }
def ClockRisesUptoSaid : Prop := clockRisesUptoRow.holds Try.pinned (OpenSpec.upto clockRisesSpec)

/-- 'sinnetlaw04.ClockSame', WHERE WHAT IT READS IS OF BULK AT MOST 1048576: true; the input reads as it did. -/
def clockSameUptoRow : OpenClaim := { program := "ytakaimfpicjpaaa", sum := "e7c48a0f20bd48e0e9ef6913f4a774d26c21e11c5c0650efb478809a518528e9", func := "sinnet/sinnetlaw04.ClockSame", spec := "clockSame", unfollowed := true, recurses := true, plainKeys := false, apart := false, narrowed := true }
def ClockSameUptoSaid : Prop := clockSameUptoRow.holds Try.pinned (OpenSpec.upto clockSameSpec)

/-- 'sinnetlaw04.ClockTells', WHERE WHAT IT READS IS OF BULK AT MOST 1048576: true; the input reads as it did. -/
def clockTellsUptoRow : OpenClaim := { program := "ytakaimfpicjpaaa", sum := "e7c48a0f20bd48e0e9ef6913f4a774d26c21e11c5c0650efb478809a518528e9", func := "sinnet/sinnetlaw04.ClockTells", spec := "clockTells", unfollowed := true, recurses := true, plainKeys := false, apart := false, narrowed := true }
def ClockTellsUptoSaid : Prop := clockTellsUptoRow.holds Try.pinned (OpenSpec.upto clockTellsSpec)

end Rows
end Go.Proofs.Ytakaimfpicjpaaa
