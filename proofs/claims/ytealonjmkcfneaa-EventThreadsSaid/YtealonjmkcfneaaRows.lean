/-
  No cell of these rows narrows 'for every input' (looked for: loops, veiled, ifaces, maps, wideKeys, modest, calm, conditions, laid).
  DERIVED. THE GIVEN ROWS OF THIS SEAT. 10 by the template 'for every input the law returns true; each argument reads behind the call as it read before'; 0 by the template 'total and deterministic' (their statements: YtealonjmkcfneaaTotals.lean).
  GIVEN WITH THE SEED: the statements are not yours to turn. If you find one false, say at which input.
  Laid BY PROGRAM, IN A SANDBOX (cutbox-rows.mjs): the forced cells as the released guide's own fill.sh prints them over the translation a20af58bcef02149… (all of the seat's roots in one cut). By AI agents, Wed Nov 11 2026. No macro, syntax, notation, axiom, sorry.
-/
import Derived.Test.YtealonjmkcfneaaChecked
import GoSem.Claim
import GoSem.ClaimJoined
import GoSem.ClaimMapViews
import Derived.JoinedTies
import Derived.KernelRfl
namespace Go.Proofs.Ytealonjmkcfneaa
/- THE CELL 'sum', in the pinned program and in every row, IS THE sha256 OF THE DUMP (.gsa) THAT YtealonjmkcfneaaProg.lean LOADS. Nothing in Lean hashes anything: it is a label: what it is worth is what the hold of that sum in a sandbox is worth. -/
noncomputable def Try.pinned : Pinned := { name := "ytealonjmkcfneaa", sum := "a20af58bcef02149d2193f8b9ca130b64eeedf6482078089d1fb0db5e488eb0d", checked := Try.checked }
namespace Rows
def none {H : Type} : Left H := { results := [], args := [] }

/-- 'sinnetlaw02.StateOwn': WHATEVER THE INPUT: true; the input reads as it did. -/
def stateOwnSpec : ChangeSpec := { name := "stateOwn", fn := fun _ => fun
  | [d1, d2, d3] => { results := [.lit (.bool true)], args := [d1, d2, d3] }
  | _ => none }
def stateOwnRow : OpenClaim := { program := "ytealonjmkcfneaa", sum := "a20af58bcef02149d2193f8b9ca130b64eeedf6482078089d1fb0db5e488eb0d", func := "sinnet/sinnetlaw02.StateOwn", spec := "stateOwn", unfollowed := true, recurses := true, apart := false }
def StateOwnSaid : Prop := stateOwnRow.holds Try.pinned (OpenSpec.ofChange stateOwnSpec)

/-- ITS FALSE NEIGHBOUR: 'it returns false'. Refute it at one input. -/
def stateOwnWrong : ChangeSpec := { name := "stateOwn", fn := fun _ => fun
  | [d1, d2, d3] => { results := [.lit (.bool false)], args := [d1, d2, d3] }
  | _ => none }
def StateOwnWrongFalsely : Prop := stateOwnRow.holds Try.pinned (OpenSpec.ofChange stateOwnWrong)

/-- 'sinnetlaw02.StateFuel': WHATEVER THE INPUT: true; the input reads as it did. -/
def stateFuelSpec : ChangeSpec := { name := "stateFuel", fn := fun _ => fun
  | [d1, d2, d3] => { results := [.lit (.bool true)], args := [d1, d2, d3] }
  | _ => none }
def stateFuelRow : OpenClaim := { program := "ytealonjmkcfneaa", sum := "a20af58bcef02149d2193f8b9ca130b64eeedf6482078089d1fb0db5e488eb0d", func := "sinnet/sinnetlaw02.StateFuel", spec := "stateFuel", unfollowed := true, recurses := true, apart := false }
def StateFuelSaid : Prop := stateFuelRow.holds Try.pinned (OpenSpec.ofChange stateFuelSpec)

/-- ITS FALSE NEIGHBOUR: 'it returns false'. Refute it at one input. -/
def stateFuelWrong : ChangeSpec := { name := "stateFuel", fn := fun _ => fun
  | [d1, d2, d3] => { results := [.lit (.bool false)], args := [d1, d2, d3] }
  | _ => none }
def StateFuelWrongFalsely : Prop := stateFuelRow.holds Try.pinned (OpenSpec.ofChange stateFuelWrong)

/-- 'sinnetlaw02.StateLocks': WHATEVER THE INPUT: true; the input reads as it did. -/
def stateLocksSpec : ChangeSpec := { name := "stateLocks", fn := fun _ => fun
  | [d1, d2, d3] => { results := [.lit (.bool true)], args := [d1, d2, d3] }
  | _ => none }
def stateLocksRow : OpenClaim := { program := "ytealonjmkcfneaa", sum := "a20af58bcef02149d2193f8b9ca130b64eeedf6482078089d1fb0db5e488eb0d", func := "sinnet/sinnetlaw02.StateLocks", spec := "stateLocks", unfollowed := true, recurses := true, apart := false }
def StateLocksSaid : Prop := stateLocksRow.holds Try.pinned (OpenSpec.ofChange stateLocksSpec)

/-- ITS FALSE NEIGHBOUR: 'it returns false'. Refute it at one input. -/
def stateLocksWrong : ChangeSpec := { name := "stateLocks", fn := fun _ => fun
  | [d1, d2, d3] => { results := [.lit (.bool false)], args := [d1, d2, d3] }
  | _ => none }
def StateLocksWrongFalsely : Prop := stateLocksRow.holds Try.pinned (OpenSpec.ofChange stateLocksWrong)

/-- 'sinnetlaw02.StateWrites': WHATEVER THE INPUT: true; the input reads as it did. -/
def stateWritesSpec : ChangeSpec := { name := "stateWrites", fn := fun _ => fun
  | [d1, d2, d3] => { results := [.lit (.bool true)], args := [d1, d2, d3] }
  | _ => none }
def stateWritesRow : OpenClaim := { program := "ytealonjmkcfneaa", sum := "a20af58bcef02149d2193f8b9ca130b64eeedf6482078089d1fb0db5e488eb0d", func := "sinnet/sinnetlaw02.StateWrites", spec := "stateWrites", unfollowed := true, recurses := true, apart := false }
def StateWritesSaid : Prop := stateWritesRow.holds Try.pinned (OpenSpec.ofChange stateWritesSpec)

/-- ITS FALSE NEIGHBOUR: 'it returns false'. Refute it at one input. -/
def stateWritesWrong : ChangeSpec := { name := "stateWrites", fn := fun _ => fun
  | [d1, d2, d3] => { results := [.lit (.bool false)], args := [d1, d2, d3] }
  | _ => none }
def StateWritesWrongFalsely : Prop := stateWritesRow.holds Try.pinned (OpenSpec.ofChange stateWritesWrong)

/-- 'sinnetlaw02.StatePlays': WHATEVER THE INPUT: true; the input reads as it did. -/
def statePlaysSpec : ChangeSpec := { name := "statePlays", fn := fun _ => fun
  | [d1, d2, d3] => { results := [.lit (.bool true)], args := [d1, d2, d3] }
  | _ => none }
def statePlaysRow : OpenClaim := { program := "ytealonjmkcfneaa", sum := "a20af58bcef02149d2193f8b9ca130b64eeedf6482078089d1fb0db5e488eb0d", func := "sinnet/sinnetlaw02.StatePlays", spec := "statePlays", unfollowed := true, recurses := true, apart := false }
def StatePlaysSaid : Prop := statePlaysRow.holds Try.pinned (OpenSpec.ofChange statePlaysSpec)

/-- ITS FALSE NEIGHBOUR: 'it returns false'. Refute it at one input. -/
def statePlaysWrong : ChangeSpec := { name := "statePlays", fn := fun _ => fun
  | [d1, d2, d3] => { results := [.lit (.bool false)], args := [d1, d2, d3] }
  | _ => none }
def StatePlaysWrongFalsely : Prop := statePlaysRow.holds Try.pinned (OpenSpec.ofChange statePlaysWrong)

/-- 'sinnetlaw02.StateNil': WHATEVER THE INPUT: true; the input reads as it did. -/
def stateNilSpec : ChangeSpec := { name := "stateNil", fn := fun _ => fun
  | [d] => { results := [.lit (.bool true)], args := [d] }
  | _ => none }
def stateNilRow : OpenClaim := { program := "ytealonjmkcfneaa", sum := "a20af58bcef02149d2193f8b9ca130b64eeedf6482078089d1fb0db5e488eb0d", func := "sinnet/sinnetlaw02.StateNil", spec := "stateNil", unfollowed := true, recurses := true, apart := false }
def StateNilSaid : Prop := stateNilRow.holds Try.pinned (OpenSpec.ofChange stateNilSpec)

/-- ITS FALSE NEIGHBOUR: 'it returns false'. Refute it at one input. -/
def stateNilWrong : ChangeSpec := { name := "stateNil", fn := fun _ => fun
  | [d] => { results := [.lit (.bool false)], args := [d] }
  | _ => none }
def StateNilWrongFalsely : Prop := stateNilRow.holds Try.pinned (OpenSpec.ofChange stateNilWrong)

/-- 'sinnetlaw02.StateReplays': WHATEVER THE INPUT: true; the input reads as it did. -/
def stateReplaysSpec : ChangeSpec := { name := "stateReplays", fn := fun _ => fun
  | [d1, d2, d3] => { results := [.lit (.bool true)], args := [d1, d2, d3] }
  | _ => none }
def stateReplaysRow : OpenClaim := { program := "ytealonjmkcfneaa", sum := "a20af58bcef02149d2193f8b9ca130b64eeedf6482078089d1fb0db5e488eb0d", func := "sinnet/sinnetlaw02.StateReplays", spec := "stateReplays", unfollowed := true, recurses := true, apart := false }
def StateReplaysSaid : Prop := stateReplaysRow.holds Try.pinned (OpenSpec.ofChange stateReplaysSpec)

/-- ITS FALSE NEIGHBOUR: 'it returns false'. Refute it at one input. -/
def stateReplaysWrong : ChangeSpec := { name := "stateReplays", fn := fun _ => fun
  | [d1, d2, d3] => { results := [.lit (.bool false)], args := [d1, d2, d3] }
  | _ => none }
def StateReplaysWrongFalsely : Prop := stateReplaysRow.holds Try.pinned (OpenSpec.ofChange stateReplaysWrong)

/-- 'sinnetlaw02.StateMore': WHATEVER THE INPUT: true; the input reads as it did. -/
def stateMoreSpec : ChangeSpec := { name := "stateMore", fn := fun _ => fun
  | [d1, d2, d3, d4] => { results := [.lit (.bool true)], args := [d1, d2, d3, d4] }
  | _ => none }
def stateMoreRow : OpenClaim := { program := "ytealonjmkcfneaa", sum := "a20af58bcef02149d2193f8b9ca130b64eeedf6482078089d1fb0db5e488eb0d", func := "sinnet/sinnetlaw02.StateMore", spec := "stateMore", unfollowed := true, recurses := true, apart := false }
def StateMoreSaid : Prop := stateMoreRow.holds Try.pinned (OpenSpec.ofChange stateMoreSpec)

/-- ITS FALSE NEIGHBOUR: 'it returns false'. Refute it at one input. -/
def stateMoreWrong : ChangeSpec := { name := "stateMore", fn := fun _ => fun
  | [d1, d2, d3, d4] => { results := [.lit (.bool false)], args := [d1, d2, d3, d4] }
  | _ => none }
def StateMoreWrongFalsely : Prop := stateMoreRow.holds Try.pinned (OpenSpec.ofChange stateMoreWrong)

/-- 'sinnetlaw03.EventThreads': WHATEVER THE INPUT: true; the input reads as it did. -/
def eventThreadsSpec : ChangeSpec := { name := "eventThreads", fn := fun _ => fun
  | [d1, d2, d3] => { results := [.lit (.bool true)], args := [d1, d2, d3] }
  | _ => none }
def eventThreadsRow : OpenClaim := { program := "ytealonjmkcfneaa", sum := "a20af58bcef02149d2193f8b9ca130b64eeedf6482078089d1fb0db5e488eb0d", func := "sinnet/sinnetlaw03.EventThreads", spec := "eventThreads", unfollowed := true, recurses := true, apart := false }
def EventThreadsSaid : Prop := eventThreadsRow.holds Try.pinned (OpenSpec.ofChange eventThreadsSpec)

/-- ITS FALSE NEIGHBOUR: 'it returns false'. Refute it at one input. -/
def eventThreadsWrong : ChangeSpec := { name := "eventThreads", fn := fun _ => fun
  | [d1, d2, d3] => { results := [.lit (.bool false)], args := [d1, d2, d3] }
  | _ => none }
def EventThreadsWrongFalsely : Prop := eventThreadsRow.holds Try.pinned (OpenSpec.ofChange eventThreadsWrong)

/-- 'sinnetlaw03.EventSwaps': WHATEVER THE INPUT: true; the input reads as it did. -/
def eventSwapsSpec : ChangeSpec := { name := "eventSwaps", fn := fun _ => fun
  | [d1, d2, d3, d4, d5] => { results := [.lit (.bool true)], args := [d1, d2, d3, d4, d5] }
  | _ => none }
def eventSwapsRow : OpenClaim := { program := "ytealonjmkcfneaa", sum := "a20af58bcef02149d2193f8b9ca130b64eeedf6482078089d1fb0db5e488eb0d", func := "sinnet/sinnetlaw03.EventSwaps", spec := "eventSwaps", unfollowed := true, recurses := true, apart := false }
def EventSwapsSaid : Prop := eventSwapsRow.holds Try.pinned (OpenSpec.ofChange eventSwapsSpec)

/-- ITS FALSE NEIGHBOUR: 'it returns false'. Refute it at one input. -/
def eventSwapsWrong : ChangeSpec := { name := "eventSwaps", fn := fun _ => fun
  | [d1, d2, d3, d4, d5] => { results := [.lit (.bool false)], args := [d1, d2, d3, d4, d5] }
  | _ => none }
def EventSwapsWrongFalsely : Prop := eventSwapsRow.holds Try.pinned (OpenSpec.ofChange eventSwapsWrong)

/- THE SECOND FORM. 'bulk': how many values and letters a reading holds, each counted each time it is reached (what is shared counts as often as it is met; a slice's spare places count too). A statement '..UptoSaid' is the law's where the arguments, and the package variables that the reading takes, are together of bulk at most 1048576: NARROWER than '..Said'. Prove '..Said' where nothing that the law and all that it calls make is longer than what came in: it says more and counts as full. Else prove '..UptoSaid'. A law counts once. -/
mutual
def uptoBulk {H : Type} : DataW H → Nat
  | .lit (.string bytes) => bytes.length + 1
  | .lit _ => 1
  | .nil => 1
  | .ptr d => uptoBulk d + 1
  | .slice elems spare => uptoBulkAll elems + uptoBulkAll spare + 1
  | .agg parts => uptoBulkAll parts + 1
  | .iface _ d => uptoBulk d + 1
  | .map entries => uptoBulkEntries entries + 1
  | .held _ => 1
def uptoBulkAll {H : Type} : List (DataW H) → Nat
  | [] => 0
  | d :: r => uptoBulk d + uptoBulkAll r
def uptoBulkEntries {H : Type} : List (Lit × DataW H) → Nat
  | [] => 0
  | x :: r => uptoBulkEntry x + uptoBulkEntries r
def uptoBulkEntry {H : Type} : Lit × DataW H → Nat
  | (.string bytes, d) => bytes.length + uptoBulk d + 1
  | (_, d) => uptoBulk d + 1
 end
def uptoSmall : (H : Type) → List (DataW H) → Bool := fun _ ds => decide (uptoBulkAll ds ≤ 1048576)
def OpenSpec.upto (s : _root_.Go.ChangeSpec) : _root_.Go.OpenSpec := { _root_.Go.OpenSpec.ofChange s with cond := some uptoSmall }

/-- 'sinnetlaw02.StateOwn', WHERE WHAT IT READS IS OF BULK AT MOST 1048576: true; the input reads as it did. -/
def stateOwnUptoRow : OpenClaim := { program := "ytealonjmkcfneaa", sum := "a20af58bcef02149d2193f8b9ca130b64eeedf6482078089d1fb0db5e488eb0d", func := "sinnet/sinnetlaw02.StateOwn", spec := "stateOwn", unfollowed := true, recurses := true, apart := false, narrowed := true }
def StateOwnUptoSaid : Prop := stateOwnUptoRow.holds Try.pinned (OpenSpec.upto stateOwnSpec)

/-- 'sinnetlaw02.StateFuel', WHERE WHAT IT READS IS OF BULK AT MOST 1048576: true; the input reads as it did. -/
def stateFuelUptoRow : OpenClaim := { program := "ytealonjmkcfneaa", sum := "a20af58bcef02149d2193f8b9ca130b64eeedf6482078089d1fb0db5e488eb0d", func := "sinnet/sinnetlaw02.StateFuel", spec := "stateFuel", unfollowed := true, recurses := true, apart := false, narrowed := true }
def StateFuelUptoSaid : Prop := stateFuelUptoRow.holds Try.pinned (OpenSpec.upto stateFuelSpec)

/-- 'sinnetlaw02.StateLocks', WHERE WHAT IT READS IS OF BULK AT MOST 1048576: true; the input reads as it did. -/
def stateLocksUptoRow : OpenClaim := { program := "ytealonjmkcfneaa", sum := "a20af58bcef02149d2193f8b9ca130b64eeedf6482078089d1fb0db5e488eb0d", func := "sinnet/sinnetlaw02.StateLocks", spec := "stateLocks", unfollowed := true, recurses := true, apart := false, narrowed := true }
def StateLocksUptoSaid : Prop := stateLocksUptoRow.holds Try.pinned (OpenSpec.upto stateLocksSpec)

/-- 'sinnetlaw02.StateWrites', WHERE WHAT IT READS IS OF BULK AT MOST 1048576: true; the input reads as it did. -/
def stateWritesUptoRow : OpenClaim := { program := "ytealonjmkcfneaa", sum := "a20af58bcef02149d2193f8b9ca130b64eeedf6482078089d1fb0db5e488eb0d", func := "sinnet/sinnetlaw02.StateWrites", spec := "stateWrites", unfollowed := true, recurses := true, apart := false, narrowed := true }
def StateWritesUptoSaid : Prop := stateWritesUptoRow.holds Try.pinned (OpenSpec.upto stateWritesSpec)

/-- 'sinnetlaw02.StatePlays', WHERE WHAT IT READS IS OF BULK AT MOST 1048576: true; the input reads as it did. -/
def statePlaysUptoRow : OpenClaim := { program := "ytealonjmkcfneaa", sum := "a20af58bcef02149d2193f8b9ca130b64eeedf6482078089d1fb0db5e488eb0d", func := "sinnet/sinnetlaw02.StatePlays", spec := "statePlays", unfollowed := true, recurses := true, apart := false, narrowed := true }
def StatePlaysUptoSaid : Prop := statePlaysUptoRow.holds Try.pinned (OpenSpec.upto statePlaysSpec)

/-- 'sinnetlaw02.StateNil', WHERE WHAT IT READS IS OF BULK AT MOST 1048576: true; the input reads as it did. -/
def stateNilUptoRow : OpenClaim := { program := "ytealonjmkcfneaa", sum := "a20af58bcef02149d2193f8b9ca130b64eeedf6482078089d1fb0db5e488eb0d", func := "sinnet/sinnetlaw02.StateNil", spec := "stateNil", unfollowed := true, recurses := true, apart := false, narrowed := true }
def StateNilUptoSaid : Prop := stateNilUptoRow.holds Try.pinned (OpenSpec.upto stateNilSpec)

/-- 'sinnetlaw02.StateReplays', WHERE WHAT IT READS IS OF BULK AT MOST 1048576: true; the input reads as it did. -/
def stateReplaysUptoRow : OpenClaim := { program := "ytealonjmkcfneaa", sum := "a20af58bcef02149d2193f8b9ca130b64eeedf6482078089d1fb0db5e488eb0d", func := "sinnet/sinnetlaw02.StateReplays", spec := "stateReplays", unfollowed := true, recurses := true, apart := false, narrowed := true }
def StateReplaysUptoSaid : Prop := stateReplaysUptoRow.holds Try.pinned (OpenSpec.upto stateReplaysSpec)

/-- 'sinnetlaw02.StateMore', WHERE WHAT IT READS IS OF BULK AT MOST 1048576: true; the input reads as it did. -/
def stateMoreUptoRow : OpenClaim := { program := "ytealonjmkcfneaa", sum := "a20af58bcef02149d2193f8b9ca130b64eeedf6482078089d1fb0db5e488eb0d", func := "sinnet/sinnetlaw02.StateMore", spec := "stateMore", unfollowed := true, recurses := true, apart := false, narrowed := true }
def StateMoreUptoSaid : Prop := stateMoreUptoRow.holds Try.pinned (OpenSpec.upto stateMoreSpec)

/-- 'sinnetlaw03.EventThreads', WHERE WHAT IT READS IS OF BULK AT MOST 1048576: true; the input reads as it did. -/
def eventThreadsUptoRow : OpenClaim := { program := "ytealonjmkcfneaa", sum := "a20af58bcef02149d2193f8b9ca130b64eeedf6482078089d1fb0db5e488eb0d", func := "sinnet/sinnetlaw03.EventThreads", spec := "eventThreads", unfollowed := true, recurses := true, apart := false, narrowed := true }
def EventThreadsUptoSaid : Prop := eventThreadsUptoRow.holds Try.pinned (OpenSpec.upto eventThreadsSpec)

/-- 'sinnetlaw03.EventSwaps', WHERE WHAT IT READS IS OF BULK AT MOST 1048576: true; the input reads as it did. -/
def eventSwapsUptoRow : OpenClaim := { program := "ytealonjmkcfneaa", sum := "a20af58bcef02149d2193f8b9ca130b64eeedf6482078089d1fb0db5e488eb0d", func := "sinnet/sinnetlaw03.EventSwaps", spec := "eventSwaps", unfollowed := true, recurses := true, apart := false, narrowed := true }
def EventSwapsUptoSaid : Prop := eventSwapsUptoRow.holds Try.pinned (OpenSpec.upto eventSwapsSpec)

end Rows
end Go.Proofs.Ytealonjmkcfneaa
