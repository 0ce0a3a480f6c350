/-
  No cell of these rows narrows 'for every input' (looked for: loops, veiled, ifaces, maps, wideKeys, modest, calm, conditions, laid).
  DERIVED. THE GIVEN ROWS OF THIS SEAT. 9 by the template 'for every input the law returns true; each argument reads behind the call as it read before'; 0 by the template 'total and deterministic' (their statements: YtobdagjdhgjplaaTotals.lean).
  GIVEN WITH THE SEED: the statements are not yours to turn. If you find one false, say at which input.
  Laid BY PROGRAM, IN A SANDBOX (cutbox-rows.mjs): the forced cells as the released guide's own fill.sh prints them over the translation 4de563f34420a4ca… (all of the seat's roots in one cut). By AI agents, Wed Nov 11 2026. No macro, syntax, notation, axiom, sorry.
-/
import Derived.Test.YtobdagjdhgjplaaChecked
import GoSem.Claim
import GoSem.ClaimJoined
import GoSem.ClaimMapViews
import Derived.JoinedTies
import Derived.KernelRfl
namespace Go.Proofs.Ytobdagjdhgjplaa
/- THE CELL 'sum', in the pinned program and in every row, IS THE sha256 OF THE DUMP (.gsa) THAT YtobdagjdhgjplaaProg.lean LOADS. Nothing in Lean hashes anything: it is a label: what it is worth is what the hold of that sum in a sandbox is worth. -/
noncomputable def Try.pinned : Pinned := { name := "ytobdagjdhgjplaa", sum := "4de563f34420a4ca2ef02b84a26665195a06547dff3875f8325feaad48874fbf", checked := Try.checked }
namespace Rows
def none {H : Type} : Left H := { results := [], args := [] }

/-- 'sinnetlaw08.SleepSets': WHATEVER THE INPUT: true; the input reads as it did. -/
def sleepSetsSpec : ChangeSpec := { name := "sleepSets", fn := fun _ => fun
  | [d1, d2, d3, d4] => { results := [.lit (.bool true)], args := [d1, d2, d3, d4] }
  | _ => none }
def sleepSetsRow : OpenClaim := { program := "ytobdagjdhgjplaa", sum := "4de563f34420a4ca2ef02b84a26665195a06547dff3875f8325feaad48874fbf", func := "sinnet/sinnetlaw08.SleepSets", spec := "sleepSets", unfollowed := true, recurses := true, plainKeys := false, apart := false }
def SleepSetsSaid : Prop := sleepSetsRow.holds Try.pinned (OpenSpec.ofChange sleepSetsSpec)

/-- ITS FALSE NEIGHBOUR: 'it returns false'. Refute it at one input. -/
def sleepSetsWrong : ChangeSpec := { name := "sleepSets", fn := fun _ => fun
  | [d1, d2, d3, d4] => { results := [.lit (.bool false)], args := [d1, d2, d3, d4] }
  | _ => none }
def SleepSetsWrongFalsely : Prop := sleepSetsRow.holds Try.pinned (OpenSpec.ofChange sleepSetsWrong)

/-- 'sinnetlaw08.SleepLaws': WHATEVER THE INPUT: true; the input reads as it did. -/
def sleepLawsSpec : ChangeSpec := { name := "sleepLaws", fn := fun _ => fun
  | [d1, d2, d3] => { results := [.lit (.bool true)], args := [d1, d2, d3] }
  | _ => none }
def sleepLawsRow : OpenClaim := { program := "ytobdagjdhgjplaa", sum := "4de563f34420a4ca2ef02b84a26665195a06547dff3875f8325feaad48874fbf", func := "sinnet/sinnetlaw08.SleepLaws", spec := "sleepLaws", unfollowed := true, recurses := true, plainKeys := false, apart := false }
def SleepLawsSaid : Prop := sleepLawsRow.holds Try.pinned (OpenSpec.ofChange sleepLawsSpec)

/-- ITS FALSE NEIGHBOUR: 'it returns false'. Refute it at one input. -/
def sleepLawsWrong : ChangeSpec := { name := "sleepLaws", fn := fun _ => fun
  | [d1, d2, d3] => { results := [.lit (.bool false)], args := [d1, d2, d3] }
  | _ => none }
def SleepLawsWrongFalsely : Prop := sleepLawsRow.holds Try.pinned (OpenSpec.ofChange sleepLawsWrong)

/-- 'sinnetlaw08.SleepTells': WHATEVER THE INPUT: true; the input reads as it did. -/
def sleepTellsSpec : ChangeSpec := { name := "sleepTells", fn := fun _ => fun
  | [d1, d2, d3, d4, d5, d6] => { results := [.lit (.bool true)], args := [d1, d2, d3, d4, d5, d6] }
  | _ => none }
def sleepTellsRow : OpenClaim := { program := "ytobdagjdhgjplaa", sum := "4de563f34420a4ca2ef02b84a26665195a06547dff3875f8325feaad48874fbf", func := "sinnet/sinnetlaw08.SleepTells", spec := "sleepTells", unfollowed := true, recurses := true, plainKeys := false, apart := false }
def SleepTellsSaid : Prop := sleepTellsRow.holds Try.pinned (OpenSpec.ofChange sleepTellsSpec)

/-- ITS FALSE NEIGHBOUR: 'it returns false'. Refute it at one input. -/
def sleepTellsWrong : ChangeSpec := { name := "sleepTells", fn := fun _ => fun
  | [d1, d2, d3, d4, d5, d6] => { results := [.lit (.bool false)], args := [d1, d2, d3, d4, d5, d6] }
  | _ => none }
def SleepTellsWrongFalsely : Prop := sleepTellsRow.holds Try.pinned (OpenSpec.ofChange sleepTellsWrong)

/-- 'sinnetlaw08.SleepSwap': WHATEVER THE INPUT: true; the input reads as it did. -/
def sleepSwapSpec : ChangeSpec := { name := "sleepSwap", fn := fun _ => fun
  | [d1, d2, d3, d4, d5] => { results := [.lit (.bool true)], args := [d1, d2, d3, d4, d5] }
  | _ => none }
def sleepSwapRow : OpenClaim := { program := "ytobdagjdhgjplaa", sum := "4de563f34420a4ca2ef02b84a26665195a06547dff3875f8325feaad48874fbf", func := "sinnet/sinnetlaw08.SleepSwap", spec := "sleepSwap", unfollowed := true, recurses := true, plainKeys := false, apart := false }
def SleepSwapSaid : Prop := sleepSwapRow.holds Try.pinned (OpenSpec.ofChange sleepSwapSpec)

/-- ITS FALSE NEIGHBOUR: 'it returns false'. Refute it at one input. -/
def sleepSwapWrong : ChangeSpec := { name := "sleepSwap", fn := fun _ => fun
  | [d1, d2, d3, d4, d5] => { results := [.lit (.bool false)], args := [d1, d2, d3, d4, d5] }
  | _ => none }
def SleepSwapWrongFalsely : Prop := sleepSwapRow.holds Try.pinned (OpenSpec.ofChange sleepSwapWrong)

/-- 'sinnetlaw08.SleepLess': WHATEVER THE INPUT: true; the input reads as it did. -/
def sleepLessSpec : ChangeSpec := { name := "sleepLess", fn := fun _ => fun
  | [d1, d2, d3, d4, d5, d6] => { results := [.lit (.bool true)], args := [d1, d2, d3, d4, d5, d6] }
  | _ => none }
def sleepLessRow : OpenClaim := { program := "ytobdagjdhgjplaa", sum := "4de563f34420a4ca2ef02b84a26665195a06547dff3875f8325feaad48874fbf", func := "sinnet/sinnetlaw08.SleepLess", spec := "sleepLess", unfollowed := true, recurses := true, plainKeys := false, apart := false }
def SleepLessSaid : Prop := sleepLessRow.holds Try.pinned (OpenSpec.ofChange sleepLessSpec)

/-- ITS FALSE NEIGHBOUR: 'it returns false'. Refute it at one input. -/
def sleepLessWrong : ChangeSpec := { name := "sleepLess", fn := fun _ => fun
  | [d1, d2, d3, d4, d5, d6] => { results := [.lit (.bool false)], args := [d1, d2, d3, d4, d5, d6] }
  | _ => none }
def SleepLessWrongFalsely : Prop := sleepLessRow.holds Try.pinned (OpenSpec.ofChange sleepLessWrong)

/-- 'sinnetlaw07.RaceTells': WHATEVER THE INPUT: true; the input reads as it did. -/
def raceTellsSpec : ChangeSpec := { name := "raceTells", fn := fun _ => fun
  | [d1, d2, d3, d4] => { results := [.lit (.bool true)], args := [d1, d2, d3, d4] }
  | _ => none }
def raceTellsRow : OpenClaim := { program := "ytobdagjdhgjplaa", sum := "4de563f34420a4ca2ef02b84a26665195a06547dff3875f8325feaad48874fbf", func := "sinnet/sinnetlaw07.RaceTells", spec := "raceTells", unfollowed := true, recurses := true, plainKeys := false, apart := false }
def RaceTellsSaid : Prop := raceTellsRow.holds Try.pinned (OpenSpec.ofChange raceTellsSpec)

/-- ITS FALSE NEIGHBOUR: 'it returns false'. Refute it at one input. -/
def raceTellsWrong : ChangeSpec := { name := "raceTells", fn := fun _ => fun
  | [d1, d2, d3, d4] => { results := [.lit (.bool false)], args := [d1, d2, d3, d4] }
  | _ => none }
def RaceTellsWrongFalsely : Prop := raceTellsRow.holds Try.pinned (OpenSpec.ofChange raceTellsWrong)

/-- 'sinnetlaw07.RaceCuts': WHATEVER THE INPUT: true; the input reads as it did. -/
def raceCutsSpec : ChangeSpec := { name := "raceCuts", fn := fun _ => fun
  | [d1, d2] => { results := [.lit (.bool true)], args := [d1, d2] }
  | _ => none }
def raceCutsRow : OpenClaim := { program := "ytobdagjdhgjplaa", sum := "4de563f34420a4ca2ef02b84a26665195a06547dff3875f8325feaad48874fbf", func := "sinnet/sinnetlaw07.RaceCuts", spec := "raceCuts", unfollowed := true, recurses := true, plainKeys := false, apart := false }
def RaceCutsSaid : Prop := raceCutsRow.holds Try.pinned (OpenSpec.ofChange raceCutsSpec)

/-- ITS FALSE NEIGHBOUR: 'it returns false'. Refute it at one input. -/
def raceCutsWrong : ChangeSpec := { name := "raceCuts", fn := fun _ => fun
  | [d1, d2] => { results := [.lit (.bool false)], args := [d1, d2] }
  | _ => none }
def RaceCutsWrongFalsely : Prop := raceCutsRow.holds Try.pinned (OpenSpec.ofChange raceCutsWrong)

/-- 'sinnetlaw07.RaceDone': WHATEVER THE INPUT: true; the input reads as it did. -/
def raceDoneSpec : ChangeSpec := { name := "raceDone", fn := fun _ => fun
  | [d1, d2, d3, d4] => { results := [.lit (.bool true)], args := [d1, d2, d3, d4] }
  | _ => none }
def raceDoneRow : OpenClaim := { program := "ytobdagjdhgjplaa", sum := "4de563f34420a4ca2ef02b84a26665195a06547dff3875f8325feaad48874fbf", func := "sinnet/sinnetlaw07.RaceDone", spec := "raceDone", unfollowed := true, recurses := true, plainKeys := false, apart := false }
def RaceDoneSaid : Prop := raceDoneRow.holds Try.pinned (OpenSpec.ofChange raceDoneSpec)

/-- ITS FALSE NEIGHBOUR: 'it returns false'. Refute it at one input. -/
def raceDoneWrong : ChangeSpec := { name := "raceDone", fn := fun _ => fun
  | [d1, d2, d3, d4] => { results := [.lit (.bool false)], args := [d1, d2, d3, d4] }
  | _ => none }
def RaceDoneWrongFalsely : Prop := raceDoneRow.holds Try.pinned (OpenSpec.ofChange raceDoneWrong)

/-- 'sinnetlaw07.RaceSwaps': WHATEVER THE INPUT: true; the input reads as it did. -/
def raceSwapsSpec : ChangeSpec := { name := "raceSwaps", fn := fun _ => fun
  | [d1, d2] => { results := [.lit (.bool true)], args := [d1, d2] }
  | _ => none }
def raceSwapsRow : OpenClaim := { program := "ytobdagjdhgjplaa", sum := "4de563f34420a4ca2ef02b84a26665195a06547dff3875f8325feaad48874fbf", func := "sinnet/sinnetlaw07.RaceSwaps", spec := "raceSwaps", unfollowed := true, recurses := true, plainKeys := false, apart := false }
def RaceSwapsSaid : Prop := raceSwapsRow.holds Try.pinned (OpenSpec.ofChange raceSwapsSpec)

/-- ITS FALSE NEIGHBOUR: 'it returns false'. Refute it at one input. -/
def raceSwapsWrong : ChangeSpec := { name := "raceSwaps", fn := fun _ => fun
  | [d1, d2] => { results := [.lit (.bool false)], args := [d1, d2] }
  | _ => none }
def RaceSwapsWrongFalsely : Prop := raceSwapsRow.holds Try.pinned (OpenSpec.ofChange raceSwapsWrong)

/- THE SECOND FORM. 'bulk': how many values and letters a reading holds, each counted each time it is reached (what is shared counts as often as it is met; a slice's spare places count too). A statement '..UptoSaid' is the law's where the arguments, and the package variables that the reading takes, are together of bulk at most 1048576: NARROWER than '..Said'. Prove '..Said' where nothing that the law and all that it calls make is longer than what came in: it says more and counts as full. Else prove '..UptoSaid'. A law counts once. -/
mutual
def uptoBulk {H : Type} : DataW H → Nat
  | .lit (.string bytes) => bytes.length + 1
  | .lit _ => 1
  | .nil => 1
  | .ptr d => uptoBulk d + 1
  | .slice elems spare => uptoBulkAll elems + uptoBulkAll spare + 1
  | .agg parts => uptoBulkAll parts + 1
  | .iface _ d => uptoBulk d + 1
  | .map entries => uptoBulkEntries entries + 1
  | .held _ => 1
def uptoBulkAll {H : Type} : List (DataW H) → Nat
  | [] => 0
  | d :: r => uptoBulk d + uptoBulkAll r
def uptoBulkEntries {H : Type} : List (Lit × DataW H) → Nat
  | [] => 0
  | x :: r => uptoBulkEntry x + uptoBulkEntries r
def uptoBulkEntry {H : Type} : Lit × DataW H → Nat
  | (.string bytes, d) => bytes.length + uptoBulk d + 1
  | (_, d) => uptoBulk d + 1
 end
def uptoSmall : (H : Type) → List (DataW H) → Bool := fun _ ds => decide (uptoBulkAll ds ≤ 1048576)
def OpenSpec.upto (s : _root_.Go.ChangeSpec) : _root_.Go.OpenSpec := { _root_.Go.OpenSpec.ofChange s with cond := some uptoSmall }

/-- 'sinnetlaw08.SleepSets', WHERE WHAT IT READS IS OF BULK AT MOST 1048576: true; the input reads as it did. -/
def sleepSetsUptoRow : OpenClaim := { program := "ytobdagjdhgjplaa", sum := "4de563f34420a4ca2ef02b84a26665195a06547dff3875f8325feaad48874fbf", func := "sinnet/sinnetlaw08.SleepSets", spec := "sleepSets", unfollowed := true, recurses := true, plainKeys := false, apart := false, narrowed := true }
def SleepSetsUptoSaid : Prop := sleepSetsUptoRow.holds Try.pinned (OpenSpec.upto sleepSetsSpec)

/-- 'sinnetlaw08.SleepLaws', WHERE WHAT IT READS IS OF BULK AT MOST 1048576: true; the input reads as it did. -/
def sleepLawsUptoRow : OpenClaim := { program := "ytobdagjdhgjplaa", sum := "4de563f34420a4ca2ef02b84a26665195a06547dff3875f8325feaad48874fbf", func := "sinnet/sinnetlaw08.SleepLaws", spec := "sleepLaws", unfollowed := true, recurses := true, plainKeys := false, apart := false, narrowed := true }
def SleepLawsUptoSaid : Prop := sleepLawsUptoRow.holds Try.pinned (OpenSpec.upto sleepLawsSpec)

/-- 'sinnetlaw08.SleepTells', WHERE WHAT IT READS IS OF BULK AT MOST 1048576: true; the input reads as it did. -/
def sleepTellsUptoRow : OpenClaim := { program := "ytobdagjdhgjplaa", sum := "4de563f34420a4ca2ef02b84a26665195a06547dff3875f8325feaad48874fbf", func := "sinnet/sinnetlaw08.SleepTells", spec := "sleepTells", unfollowed := true, recurses := true, plainKeys := false, apart := false, narrowed := true }
def SleepTellsUptoSaid : Prop := sleepTellsUptoRow.holds Try.pinned (OpenSpec.upto sleepTellsSpec)

/-- 'sinnetlaw08.SleepSwap', WHERE WHAT IT READS IS OF BULK AT MOST 1048576: true; the input reads as it did. -/
def sleepSwapUptoRow : OpenClaim := { program := "ytobdagjdhgjplaa", sum := "4de563f34420a4ca2ef02b84a26665195a06547dff3875f8325feaad48874fbf", func := "sinnet/sinnetlaw08.SleepSwap", spec := "sleepSwap", unfollowed := true, recurses := true, plainKeys := false, apart := false, narrowed := true }
def SleepSwapUptoSaid : Prop := sleepSwapUptoRow.holds Try.pinned (OpenSpec.upto sleepSwapSpec)

/-- 'sinnetlaw08.SleepLess', WHERE WHAT IT READS IS OF BULK AT MOST 1048576: true; the input reads as it did. -/
def sleepLessUptoRow : OpenClaim := { program := "ytobdagjdhgjplaa", sum := "4de563f34420a4ca2ef02b84a26665195a06547dff3875f8325feaad48874fbf", func := "sinnet/sinnetlaw08.SleepLess", spec := "sleepLess", unfollowed := true, recurses := true, plainKeys := false, apart := false, narrowed := true }
def SleepLessUptoSaid : Prop := sleepLessUptoRow.holds Try.pinned (OpenSpec.upto sleepLessSpec)

/-- 'sinnetlaw07.RaceTells', WHERE WHAT IT READS IS OF BULK AT MOST 1048576: true; the input reads as it did. -/
def raceTellsUptoRow : OpenClaim := { program := "ytobdagjdhgjplaa", sum := "4de563f34420a4ca2ef02b84a26665195a06547dff3875f8325feaad48874fbf", func := "sinnet/sinnetlaw07.RaceTells", spec := "raceTells", unfollowed := true, recurses := true, plainKeys := false, apart := false, narrowed := true }
def RaceTellsUptoSaid : Prop := raceTellsUptoRow.holds Try.pinned (OpenSpec.upto raceTellsSpec)

/-- 'sinnetlaw07.RaceCuts', WHERE WHAT IT READS IS OF BULK AT MOST 1048576: true; the input reads as it did. -/
def raceCutsUptoRow : OpenClaim := { program := "ytobdagjdhgjplaa", sum := "4de563f34420a4ca2ef02b84a26665195a06547dff3875f8325feaad48874fbf", func := "sinnet/sinnetlaw07.RaceCuts", spec := "raceCuts", unfollowed := true, recurses := true, plainKeys := false, apart := false, narrowed := true }
def RaceCutsUptoSaid : Prop := raceCutsUptoRow.holds Try.pinned (OpenSpec.upto raceCutsSpec)

/-- 'sinnetlaw07.RaceDone', WHERE WHAT IT READS IS OF BULK AT MOST 1048576: true; the input reads as it did. -/
def raceDoneUptoRow : OpenClaim := { program := "ytobdagjdhgjplaa", sum := "4de563f34420a4ca2ef02b84a26665195a06547dff3875f8325feaad48874fbf", func := "sinnet/sinnetlaw07.RaceDone", spec := "raceDone", unfollowed := true, recurses := true, plainKeys := false, apart := false, narrowed := true }
def RaceDoneUptoSaid : Prop := raceDoneUptoRow.holds Try.pinned (OpenSpec.upto raceDoneSpec)

/-- 'sinnetlaw07.RaceSwaps', WHERE WHAT IT READS IS OF BULK AT MOST 1048576: true; the input reads as it did. -/
def raceSwapsUptoRow : OpenClaim := { program := "ytobdagjdhgjplaa", sum := "4de563f34420a4ca2ef02b84a26665195a06547dff3875f8325feaad48874fbf", func := "sinnet/sinnetlaw07.RaceSwaps", spec := "raceSwaps", unfollowed := true, recurses := true, plainKeys := false, apart := false, narrowed := true }
def RaceSwapsUptoSaid : Prop := raceSwapsUptoRow.holds Try.pinned (OpenSpec.upto raceSwapsSpec)

end Rows
end Go.Proofs.Ytobdagjdhgjplaa
