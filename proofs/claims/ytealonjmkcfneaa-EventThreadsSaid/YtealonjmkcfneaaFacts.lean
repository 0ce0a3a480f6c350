/-
  Closed facts of this seat's program: types and functions. Written by a program (wip/tools/facts.py).
-/
import Derived.Test.YtealonjmkcfneaaProg
import Derived.KernelRfl
import Derived.Test.YtealonjmkcfneaaWords
set_option maxRecDepth 100000
namespace Go.Proofs.Ytealonjmkcfneaa
open Go Go.Sn
@[go_sem] theorem sz1 : szT Try.prog 1 = some 1 := by kernel_rfl
@[go_sem] theorem ag1 : aggT Try.prog 1 = some false := by kernel_rfl
@[go_sem] theorem by1 : bytesT Try.prog 1 = some 8 := by kernel_rfl
@[go_sem] theorem sz2 : szT Try.prog 2 = some 1 := by kernel_rfl
@[go_sem] theorem ag2 : aggT Try.prog 2 = some false := by kernel_rfl
@[go_sem] theorem by2 : bytesT Try.prog 2 = some 8 := by kernel_rfl
@[go_sem] theorem zr2 : zeroT Try.prog 2 = some [.v (.int .i64 0)] := by kernel_rfl
@[go_sem] theorem sz3 : szT Try.prog 3 = some 1 := by kernel_rfl
@[go_sem] theorem ag3 : aggT Try.prog 3 = some false := by kernel_rfl
@[go_sem] theorem by3 : bytesT Try.prog 3 = some 8 := by kernel_rfl
@[go_sem] theorem zr3 : zeroT Try.prog 3 = some [.v (.int .i64 0)] := by kernel_rfl
@[go_sem] theorem sz4 : szT Try.prog 4 = some 1 := by kernel_rfl
@[go_sem] theorem ag4 : aggT Try.prog 4 = some false := by kernel_rfl
@[go_sem] theorem by4 : bytesT Try.prog 4 = some 1 := by kernel_rfl
@[go_sem] theorem zr4 : zeroT Try.prog 4 = some [.v (.bool false)] := by kernel_rfl
@[go_sem] theorem sz5 : szT Try.prog 5 = some 1 := by kernel_rfl
@[go_sem] theorem ag5 : aggT Try.prog 5 = some false := by kernel_rfl
@[go_sem] theorem by5 : bytesT Try.prog 5 = some 1 := by kernel_rfl
@[go_sem] theorem zr5 : zeroT Try.prog 5 = some [.v (.int .u8 0)] := by kernel_rfl
@[go_sem] theorem sz9 : szT Try.prog 9 = some 1 := by kernel_rfl
@[go_sem] theorem ag9 : aggT Try.prog 9 = some false := by kernel_rfl
@[go_sem] theorem by9 : bytesT Try.prog 9 = some 16 := by kernel_rfl
@[go_sem] theorem zr9 : zeroT Try.prog 9 = some [.v (.string ⟨#[]⟩)] := by kernel_rfl
@[go_sem] theorem sz21 : szT Try.prog 21 = some 1 := by kernel_rfl
@[go_sem] theorem ag21 : aggT Try.prog 21 = some false := by kernel_rfl
@[go_sem] theorem by21 : bytesT Try.prog 21 = some 4 := by kernel_rfl
@[go_sem] theorem zr21 : zeroT Try.prog 21 = some [.v (.int .i32 0)] := by kernel_rfl
@[go_sem] theorem sz22 : szT Try.prog 22 = some 1 := by kernel_rfl
@[go_sem] theorem ag22 : aggT Try.prog 22 = some false := by kernel_rfl
@[go_sem] theorem by22 : bytesT Try.prog 22 = some 24 := by kernel_rfl
@[go_sem] theorem zr22 : zeroT Try.prog 22 = some [.nil] := by kernel_rfl
@[go_sem] theorem sz23 : szT Try.prog 23 = some 3 := by kernel_rfl
@[go_sem] theorem ag23 : aggT Try.prog 23 = some true := by kernel_rfl
@[go_sem] theorem by23 : bytesT Try.prog 23 = some 40 := by kernel_rfl
@[go_sem] theorem zr23 : zeroT Try.prog 23 = some [.v (.int .i64 0), .v (.int .i64 0), .nil] := by kernel_rfl
@[go_sem] theorem off23_0 : offT Try.prog 23 0 = some 0 := by kernel_rfl
@[go_sem] theorem fo23_0 : ftoT Try.prog 23 0 = some (3, 0) := by kernel_rfl
@[go_sem] theorem off23_1 : offT Try.prog 23 1 = some 1 := by kernel_rfl
@[go_sem] theorem fo23_1 : ftoT Try.prog 23 1 = some (3, 1) := by kernel_rfl
@[go_sem] theorem off23_2 : offT Try.prog 23 2 = some 2 := by kernel_rfl
@[go_sem] theorem fo23_2 : ftoT Try.prog 23 2 = some (22, 2) := by kernel_rfl
@[go_sem] theorem pl23 : placesT Try.prog 23 = some [(0, 1), (1, 1), (2, 1)] := by kernel_rfl
@[go_sem] theorem sz24 : szT Try.prog 24 = some 3 := by kernel_rfl
@[go_sem] theorem ag24 : aggT Try.prog 24 = some true := by kernel_rfl
@[go_sem] theorem by24 : bytesT Try.prog 24 = some 40 := by kernel_rfl
@[go_sem] theorem zr24 : zeroT Try.prog 24 = some [.v (.int .i64 0), .v (.int .i64 0), .nil] := by kernel_rfl
@[go_sem] theorem off24_0 : offT Try.prog 24 0 = some 0 := by kernel_rfl
@[go_sem] theorem fo24_0 : ftoT Try.prog 24 0 = some (3, 0) := by kernel_rfl
@[go_sem] theorem off24_1 : offT Try.prog 24 1 = some 1 := by kernel_rfl
@[go_sem] theorem fo24_1 : ftoT Try.prog 24 1 = some (3, 1) := by kernel_rfl
@[go_sem] theorem off24_2 : offT Try.prog 24 2 = some 2 := by kernel_rfl
@[go_sem] theorem fo24_2 : ftoT Try.prog 24 2 = some (22, 2) := by kernel_rfl
@[go_sem] theorem pl24 : placesT Try.prog 24 = some [(0, 1), (1, 1), (2, 1)] := by kernel_rfl
@[go_sem] theorem sz25 : szT Try.prog 25 = some 1 := by kernel_rfl
@[go_sem] theorem ag25 : aggT Try.prog 25 = some false := by kernel_rfl
@[go_sem] theorem by25 : bytesT Try.prog 25 = some 24 := by kernel_rfl
@[go_sem] theorem zr25 : zeroT Try.prog 25 = some [.nil] := by kernel_rfl
@[go_sem] theorem sz26 : szT Try.prog 26 = some 1 := by kernel_rfl
@[go_sem] theorem ag26 : aggT Try.prog 26 = some false := by kernel_rfl
@[go_sem] theorem by26 : bytesT Try.prog 26 = some 8 := by kernel_rfl
@[go_sem] theorem sz27 : szT Try.prog 27 = some 1 := by kernel_rfl
@[go_sem] theorem ag27 : aggT Try.prog 27 = some false := by kernel_rfl
@[go_sem] theorem by27 : bytesT Try.prog 27 = some 8 := by kernel_rfl
@[go_sem] theorem sz28 : szT Try.prog 28 = some 1 := by kernel_rfl
@[go_sem] theorem ag28 : aggT Try.prog 28 = some false := by kernel_rfl
@[go_sem] theorem by28 : bytesT Try.prog 28 = some 8 := by kernel_rfl
@[go_sem] theorem zr28 : zeroT Try.prog 28 = some [.v (.pointer none)] := by kernel_rfl
@[go_sem] theorem sz29 : szT Try.prog 29 = some 1 := by kernel_rfl
@[go_sem] theorem ag29 : aggT Try.prog 29 = some false := by kernel_rfl
@[go_sem] theorem by29 : bytesT Try.prog 29 = some 8 := by kernel_rfl
@[go_sem] theorem zr29 : zeroT Try.prog 29 = some [.v (.int .i64 0)] := by kernel_rfl
@[go_sem] theorem sz31 : szT Try.prog 31 = some 1 := by kernel_rfl
@[go_sem] theorem ag31 : aggT Try.prog 31 = some false := by kernel_rfl
@[go_sem] theorem by31 : bytesT Try.prog 31 = some 8 := by kernel_rfl
@[go_sem] theorem sz32 : szT Try.prog 32 = some 1 := by kernel_rfl
@[go_sem] theorem ag32 : aggT Try.prog 32 = some false := by kernel_rfl
@[go_sem] theorem by32 : bytesT Try.prog 32 = some 8 := by kernel_rfl
@[go_sem] theorem zr32 : zeroT Try.prog 32 = some [.v (.map none)] := by kernel_rfl
@[go_sem] theorem sz33 : szT Try.prog 33 = some 1 := by kernel_rfl
@[go_sem] theorem ag33 : aggT Try.prog 33 = some false := by kernel_rfl
@[go_sem] theorem by33 : bytesT Try.prog 33 = some 8 := by kernel_rfl
@[go_sem] theorem sz34 : szT Try.prog 34 = some 4 := by kernel_rfl
@[go_sem] theorem ag34 : aggT Try.prog 34 = some true := by kernel_rfl
@[go_sem] theorem by34 : bytesT Try.prog 34 = some 32 := by kernel_rfl
@[go_sem] theorem zr34 : zeroT Try.prog 34 = some [.v (.int .i64 0), .v (.int .i64 0), .v (.int .i64 0), .v (.bool false)] := by kernel_rfl
@[go_sem] theorem off34_0 : offT Try.prog 34 0 = some 0 := by kernel_rfl
@[go_sem] theorem fo34_0 : ftoT Try.prog 34 0 = some (3, 0) := by kernel_rfl
@[go_sem] theorem off34_1 : offT Try.prog 34 1 = some 1 := by kernel_rfl
@[go_sem] theorem fo34_1 : ftoT Try.prog 34 1 = some (3, 1) := by kernel_rfl
@[go_sem] theorem off34_2 : offT Try.prog 34 2 = some 2 := by kernel_rfl
@[go_sem] theorem fo34_2 : ftoT Try.prog 34 2 = some (3, 2) := by kernel_rfl
@[go_sem] theorem off34_3 : offT Try.prog 34 3 = some 3 := by kernel_rfl
@[go_sem] theorem fo34_3 : ftoT Try.prog 34 3 = some (4, 3) := by kernel_rfl
@[go_sem] theorem pl34 : placesT Try.prog 34 = some [(0, 1), (1, 1), (2, 1), (3, 1)] := by kernel_rfl
@[go_sem] theorem eq34 : eqShape Try.prog 34 = some [.int .i64, .int .i64, .int .i64, .bool] := by kernel_rfl
@[go_sem] theorem sz35 : szT Try.prog 35 = some 4 := by kernel_rfl
@[go_sem] theorem ag35 : aggT Try.prog 35 = some true := by kernel_rfl
@[go_sem] theorem by35 : bytesT Try.prog 35 = some 32 := by kernel_rfl
@[go_sem] theorem zr35 : zeroT Try.prog 35 = some [.v (.int .i64 0), .v (.int .i64 0), .v (.int .i64 0), .v (.bool false)] := by kernel_rfl
@[go_sem] theorem off35_0 : offT Try.prog 35 0 = some 0 := by kernel_rfl
@[go_sem] theorem fo35_0 : ftoT Try.prog 35 0 = some (3, 0) := by kernel_rfl
@[go_sem] theorem off35_1 : offT Try.prog 35 1 = some 1 := by kernel_rfl
@[go_sem] theorem fo35_1 : ftoT Try.prog 35 1 = some (3, 1) := by kernel_rfl
@[go_sem] theorem off35_2 : offT Try.prog 35 2 = some 2 := by kernel_rfl
@[go_sem] theorem fo35_2 : ftoT Try.prog 35 2 = some (3, 2) := by kernel_rfl
@[go_sem] theorem off35_3 : offT Try.prog 35 3 = some 3 := by kernel_rfl
@[go_sem] theorem fo35_3 : ftoT Try.prog 35 3 = some (4, 3) := by kernel_rfl
@[go_sem] theorem pl35 : placesT Try.prog 35 = some [(0, 1), (1, 1), (2, 1), (3, 1)] := by kernel_rfl
@[go_sem] theorem eq35 : eqShape Try.prog 35 = some [.int .i64, .int .i64, .int .i64, .bool] := by kernel_rfl
@[go_sem] theorem sz37 : szT Try.prog 37 = some 1 := by kernel_rfl
@[go_sem] theorem ag37 : aggT Try.prog 37 = some false := by kernel_rfl
@[go_sem] theorem by37 : bytesT Try.prog 37 = some 8 := by kernel_rfl
@[go_sem] theorem sz39 : szT Try.prog 39 = some 1 := by kernel_rfl
@[go_sem] theorem ag39 : aggT Try.prog 39 = some false := by kernel_rfl
@[go_sem] theorem by39 : bytesT Try.prog 39 = some 8 := by kernel_rfl
@[go_sem] theorem sz40 : szT Try.prog 40 = some 1 := by kernel_rfl
@[go_sem] theorem ag40 : aggT Try.prog 40 = some false := by kernel_rfl
@[go_sem] theorem by40 : bytesT Try.prog 40 = some 8 := by kernel_rfl
@[go_sem] theorem sz41 : szT Try.prog 41 = some 1 := by kernel_rfl
@[go_sem] theorem ag41 : aggT Try.prog 41 = some false := by kernel_rfl
@[go_sem] theorem by41 : bytesT Try.prog 41 = some 8 := by kernel_rfl
@[go_sem] theorem zr41 : zeroT Try.prog 41 = some [.v (.map none)] := by kernel_rfl
@[go_sem] theorem sz42 : szT Try.prog 42 = some 1 := by kernel_rfl
@[go_sem] theorem ag42 : aggT Try.prog 42 = some false := by kernel_rfl
@[go_sem] theorem by42 : bytesT Try.prog 42 = some 8 := by kernel_rfl
@[go_sem] theorem sz43 : szT Try.prog 43 = some 1 := by kernel_rfl
@[go_sem] theorem ag43 : aggT Try.prog 43 = some false := by kernel_rfl
@[go_sem] theorem by43 : bytesT Try.prog 43 = some 8 := by kernel_rfl
@[go_sem] theorem sz44 : szT Try.prog 44 = some 2 := by kernel_rfl
@[go_sem] theorem ag44 : aggT Try.prog 44 = some true := by kernel_rfl
@[go_sem] theorem by44 : bytesT Try.prog 44 = some 16 := by kernel_rfl
@[go_sem] theorem zr44 : zeroT Try.prog 44 = some [.v (.int .i64 0), .v (.int .i64 0)] := by kernel_rfl
@[go_sem] theorem pl44 : placesT Try.prog 44 = some [(0, 1), (1, 1)] := by kernel_rfl
@[go_sem] theorem eq44 : eqShape Try.prog 44 = some [.int .i64, .int .i64] := by kernel_rfl
@[go_sem] theorem sz45 : szT Try.prog 45 = some 4 := by kernel_rfl
@[go_sem] theorem ag45 : aggT Try.prog 45 = some true := by kernel_rfl
@[go_sem] theorem by45 : bytesT Try.prog 45 = some 32 := by kernel_rfl
@[go_sem] theorem zr45 : zeroT Try.prog 45 = some [.v (.int .i64 0), .v (.int .i64 0), .v (.int .i64 0), .v (.int .i64 0)] := by kernel_rfl
@[go_sem] theorem pl45 : placesT Try.prog 45 = some [(0, 1), (1, 1), (2, 1), (3, 1)] := by kernel_rfl
@[go_sem] theorem eq45 : eqShape Try.prog 45 = some [.int .i64, .int .i64, .int .i64, .int .i64] := by kernel_rfl
@[go_sem] theorem sz46 : szT Try.prog 46 = some 1 := by kernel_rfl
@[go_sem] theorem ag46 : aggT Try.prog 46 = some false := by kernel_rfl
@[go_sem] theorem by46 : bytesT Try.prog 46 = some 8 := by kernel_rfl
@[go_sem] theorem sz47 : szT Try.prog 47 = some 1 := by kernel_rfl
@[go_sem] theorem ag47 : aggT Try.prog 47 = some false := by kernel_rfl
@[go_sem] theorem by47 : bytesT Try.prog 47 = some 8 := by kernel_rfl
@[go_sem] theorem zr47 : zeroT Try.prog 47 = some [.v (.pointer none)] := by kernel_rfl
@[go_sem] theorem sz48 : szT Try.prog 48 = some 1 := by kernel_rfl
@[go_sem] theorem ag48 : aggT Try.prog 48 = some false := by kernel_rfl
@[go_sem] theorem by48 : bytesT Try.prog 48 = some 8 := by kernel_rfl
@[go_sem] theorem sz49 : szT Try.prog 49 = some 1 := by kernel_rfl
@[go_sem] theorem ag49 : aggT Try.prog 49 = some false := by kernel_rfl
@[go_sem] theorem by49 : bytesT Try.prog 49 = some 8 := by kernel_rfl
@[go_sem] theorem sz50 : szT Try.prog 50 = some 1 := by kernel_rfl
@[go_sem] theorem ag50 : aggT Try.prog 50 = some false := by kernel_rfl
@[go_sem] theorem by50 : bytesT Try.prog 50 = some 8 := by kernel_rfl
@[go_sem] theorem sz52 : szT Try.prog 52 = some 1 := by kernel_rfl
@[go_sem] theorem ag52 : aggT Try.prog 52 = some false := by kernel_rfl
@[go_sem] theorem by52 : bytesT Try.prog 52 = some 8 := by kernel_rfl
@[go_sem] theorem sz53 : szT Try.prog 53 = some 1 := by kernel_rfl
@[go_sem] theorem ag53 : aggT Try.prog 53 = some false := by kernel_rfl
@[go_sem] theorem by53 : bytesT Try.prog 53 = some 8 := by kernel_rfl
@[go_sem] theorem sz54 : szT Try.prog 54 = some 1 := by kernel_rfl
@[go_sem] theorem ag54 : aggT Try.prog 54 = some false := by kernel_rfl
@[go_sem] theorem by54 : bytesT Try.prog 54 = some 24 := by kernel_rfl
@[go_sem] theorem zr54 : zeroT Try.prog 54 = some [.nil] := by kernel_rfl
@[go_sem] theorem sz55 : szT Try.prog 55 = some 10 := by kernel_rfl
@[go_sem] theorem ag55 : aggT Try.prog 55 = some true := by kernel_rfl
@[go_sem] theorem by55 : bytesT Try.prog 55 = some 112 := by kernel_rfl
@[go_sem] theorem zr55 : zeroT Try.prog 55 = some [.v (.int .i64 0), .v (.int .i64 0), .nil, .nil, .v (.int .i64 0), .v (.int .i64 0), .v (.int .i64 0), .v (.int .i64 0), .v (.int .i64 0), .v (.int .i64 0)] := by kernel_rfl
@[go_sem] theorem off55_0 : offT Try.prog 55 0 = some 0 := by kernel_rfl
@[go_sem] theorem fo55_0 : ftoT Try.prog 55 0 = some (24, 0) := by kernel_rfl
@[go_sem] theorem off55_1 : offT Try.prog 55 1 = some 3 := by kernel_rfl
@[go_sem] theorem fo55_1 : ftoT Try.prog 55 1 = some (54, 3) := by kernel_rfl
@[go_sem] theorem off55_2 : offT Try.prog 55 2 = some 4 := by kernel_rfl
@[go_sem] theorem fo55_2 : ftoT Try.prog 55 2 = some (45, 4) := by kernel_rfl
@[go_sem] theorem off55_3 : offT Try.prog 55 3 = some 8 := by kernel_rfl
@[go_sem] theorem fo55_3 : ftoT Try.prog 55 3 = some (44, 8) := by kernel_rfl
@[go_sem] theorem pl55 : placesT Try.prog 55 = some [(0, 3), (3, 1), (4, 4), (8, 2)] := by kernel_rfl
@[go_sem] theorem sz56 : szT Try.prog 56 = some 10 := by kernel_rfl
@[go_sem] theorem ag56 : aggT Try.prog 56 = some true := by kernel_rfl
@[go_sem] theorem by56 : bytesT Try.prog 56 = some 112 := by kernel_rfl
@[go_sem] theorem zr56 : zeroT Try.prog 56 = some [.v (.int .i64 0), .v (.int .i64 0), .nil, .nil, .v (.int .i64 0), .v (.int .i64 0), .v (.int .i64 0), .v (.int .i64 0), .v (.int .i64 0), .v (.int .i64 0)] := by kernel_rfl
@[go_sem] theorem off56_0 : offT Try.prog 56 0 = some 0 := by kernel_rfl
@[go_sem] theorem fo56_0 : ftoT Try.prog 56 0 = some (24, 0) := by kernel_rfl
@[go_sem] theorem off56_1 : offT Try.prog 56 1 = some 3 := by kernel_rfl
@[go_sem] theorem fo56_1 : ftoT Try.prog 56 1 = some (54, 3) := by kernel_rfl
@[go_sem] theorem off56_2 : offT Try.prog 56 2 = some 4 := by kernel_rfl
@[go_sem] theorem fo56_2 : ftoT Try.prog 56 2 = some (45, 4) := by kernel_rfl
@[go_sem] theorem off56_3 : offT Try.prog 56 3 = some 8 := by kernel_rfl
@[go_sem] theorem fo56_3 : ftoT Try.prog 56 3 = some (44, 8) := by kernel_rfl
@[go_sem] theorem pl56 : placesT Try.prog 56 = some [(0, 3), (3, 1), (4, 4), (8, 2)] := by kernel_rfl
@[go_sem] theorem sz57 : szT Try.prog 57 = some 1 := by kernel_rfl
@[go_sem] theorem ag57 : aggT Try.prog 57 = some false := by kernel_rfl
@[go_sem] theorem by57 : bytesT Try.prog 57 = some 24 := by kernel_rfl
@[go_sem] theorem zr57 : zeroT Try.prog 57 = some [.nil] := by kernel_rfl
@[go_sem] theorem sz59 : szT Try.prog 59 = some 1 := by kernel_rfl
@[go_sem] theorem ag59 : aggT Try.prog 59 = some false := by kernel_rfl
@[go_sem] theorem by59 : bytesT Try.prog 59 = some 8 := by kernel_rfl
@[go_sem] theorem sz61 : szT Try.prog 61 = some 1 := by kernel_rfl
@[go_sem] theorem ag61 : aggT Try.prog 61 = some false := by kernel_rfl
@[go_sem] theorem by61 : bytesT Try.prog 61 = some 8 := by kernel_rfl
@[go_sem] theorem sz62 : szT Try.prog 62 = some 1 := by kernel_rfl
@[go_sem] theorem ag62 : aggT Try.prog 62 = some false := by kernel_rfl
@[go_sem] theorem by62 : bytesT Try.prog 62 = some 8 := by kernel_rfl
@[go_sem] theorem sz63 : szT Try.prog 63 = some 1 := by kernel_rfl
@[go_sem] theorem ag63 : aggT Try.prog 63 = some false := by kernel_rfl
@[go_sem] theorem by63 : bytesT Try.prog 63 = some 8 := by kernel_rfl
@[go_sem] theorem zr63 : zeroT Try.prog 63 = some [.v (.int .u64 0)] := by kernel_rfl
@[go_sem] theorem sz64 : szT Try.prog 64 = some 1 := by kernel_rfl
@[go_sem] theorem ag64 : aggT Try.prog 64 = some false := by kernel_rfl
@[go_sem] theorem by64 : bytesT Try.prog 64 = some 8 := by kernel_rfl
@[go_sem] theorem sz65 : szT Try.prog 65 = some 1 := by kernel_rfl
@[go_sem] theorem ag65 : aggT Try.prog 65 = some false := by kernel_rfl
@[go_sem] theorem by65 : bytesT Try.prog 65 = some 8 := by kernel_rfl
@[go_sem] theorem sz66 : szT Try.prog 66 = some 1 := by kernel_rfl
@[go_sem] theorem ag66 : aggT Try.prog 66 = some false := by kernel_rfl
@[go_sem] theorem by66 : bytesT Try.prog 66 = some 8 := by kernel_rfl
@[go_sem] theorem sz67 : szT Try.prog 67 = some 4 := by kernel_rfl
@[go_sem] theorem ag67 : aggT Try.prog 67 = some true := by kernel_rfl
@[go_sem] theorem by67 : bytesT Try.prog 67 = some 32 := by kernel_rfl
@[go_sem] theorem zr67 : zeroT Try.prog 67 = some [.v (.int .i64 0), .v (.int .i64 0), .v (.int .i64 0), .v (.int .i64 0)] := by kernel_rfl
@[go_sem] theorem off67_0 : offT Try.prog 67 0 = some 0 := by kernel_rfl
@[go_sem] theorem fo67_0 : ftoT Try.prog 67 0 = some (3, 0) := by kernel_rfl
@[go_sem] theorem off67_1 : offT Try.prog 67 1 = some 1 := by kernel_rfl
@[go_sem] theorem fo67_1 : ftoT Try.prog 67 1 = some (3, 1) := by kernel_rfl
@[go_sem] theorem off67_2 : offT Try.prog 67 2 = some 2 := by kernel_rfl
@[go_sem] theorem fo67_2 : ftoT Try.prog 67 2 = some (3, 2) := by kernel_rfl
@[go_sem] theorem off67_3 : offT Try.prog 67 3 = some 3 := by kernel_rfl
@[go_sem] theorem fo67_3 : ftoT Try.prog 67 3 = some (2, 3) := by kernel_rfl
@[go_sem] theorem pl67 : placesT Try.prog 67 = some [(0, 1), (1, 1), (2, 1), (3, 1)] := by kernel_rfl
@[go_sem] theorem eq67 : eqShape Try.prog 67 = some [.int .i64, .int .i64, .int .i64, .int .i64] := by kernel_rfl
@[go_sem] theorem sz68 : szT Try.prog 68 = some 4 := by kernel_rfl
@[go_sem] theorem ag68 : aggT Try.prog 68 = some true := by kernel_rfl
@[go_sem] theorem by68 : bytesT Try.prog 68 = some 32 := by kernel_rfl
@[go_sem] theorem zr68 : zeroT Try.prog 68 = some [.v (.int .i64 0), .v (.int .i64 0), .v (.int .i64 0), .v (.int .i64 0)] := by kernel_rfl
@[go_sem] theorem off68_0 : offT Try.prog 68 0 = some 0 := by kernel_rfl
@[go_sem] theorem fo68_0 : ftoT Try.prog 68 0 = some (3, 0) := by kernel_rfl
@[go_sem] theorem off68_1 : offT Try.prog 68 1 = some 1 := by kernel_rfl
@[go_sem] theorem fo68_1 : ftoT Try.prog 68 1 = some (3, 1) := by kernel_rfl
@[go_sem] theorem off68_2 : offT Try.prog 68 2 = some 2 := by kernel_rfl
@[go_sem] theorem fo68_2 : ftoT Try.prog 68 2 = some (3, 2) := by kernel_rfl
@[go_sem] theorem off68_3 : offT Try.prog 68 3 = some 3 := by kernel_rfl
@[go_sem] theorem fo68_3 : ftoT Try.prog 68 3 = some (2, 3) := by kernel_rfl
@[go_sem] theorem pl68 : placesT Try.prog 68 = some [(0, 1), (1, 1), (2, 1), (3, 1)] := by kernel_rfl
@[go_sem] theorem eq68 : eqShape Try.prog 68 = some [.int .i64, .int .i64, .int .i64, .int .i64] := by kernel_rfl
@[go_sem] theorem sz69 : szT Try.prog 69 = some 1 := by kernel_rfl
@[go_sem] theorem ag69 : aggT Try.prog 69 = some false := by kernel_rfl
@[go_sem] theorem by69 : bytesT Try.prog 69 = some 24 := by kernel_rfl
@[go_sem] theorem zr69 : zeroT Try.prog 69 = some [.nil] := by kernel_rfl
@[go_sem] theorem sz70 : szT Try.prog 70 = some 1 := by kernel_rfl
@[go_sem] theorem ag70 : aggT Try.prog 70 = some false := by kernel_rfl
@[go_sem] theorem by70 : bytesT Try.prog 70 = some 8 := by kernel_rfl
@[go_sem] theorem sz71 : szT Try.prog 71 = some 1 := by kernel_rfl
@[go_sem] theorem ag71 : aggT Try.prog 71 = some false := by kernel_rfl
@[go_sem] theorem by71 : bytesT Try.prog 71 = some 24 := by kernel_rfl
@[go_sem] theorem zr71 : zeroT Try.prog 71 = some [.nil] := by kernel_rfl
@[go_sem] theorem sz72 : szT Try.prog 72 = some 10 := by kernel_rfl
@[go_sem] theorem ag72 : aggT Try.prog 72 = some true := by kernel_rfl
@[go_sem] theorem by72 : bytesT Try.prog 72 = some 112 := by kernel_rfl
@[go_sem] theorem zr72 : zeroT Try.prog 72 = some [.v (.int .i64 0), .v (.int .i64 0), .nil, .nil, .v (.int .i64 0), .v (.int .i64 0), .v (.int .i64 0), .v (.int .i64 0), .v (.int .i64 0), .v (.int .i64 0)] := by kernel_rfl
@[go_sem] theorem off72_0 : offT Try.prog 72 0 = some 0 := by kernel_rfl
@[go_sem] theorem fo72_0 : ftoT Try.prog 72 0 = some (24, 0) := by kernel_rfl
@[go_sem] theorem off72_1 : offT Try.prog 72 1 = some 3 := by kernel_rfl
@[go_sem] theorem fo72_1 : ftoT Try.prog 72 1 = some (71, 3) := by kernel_rfl
@[go_sem] theorem off72_2 : offT Try.prog 72 2 = some 4 := by kernel_rfl
@[go_sem] theorem fo72_2 : ftoT Try.prog 72 2 = some (45, 4) := by kernel_rfl
@[go_sem] theorem off72_3 : offT Try.prog 72 3 = some 8 := by kernel_rfl
@[go_sem] theorem fo72_3 : ftoT Try.prog 72 3 = some (44, 8) := by kernel_rfl
@[go_sem] theorem pl72 : placesT Try.prog 72 = some [(0, 3), (3, 1), (4, 4), (8, 2)] := by kernel_rfl
@[go_sem] theorem sz73 : szT Try.prog 73 = some 10 := by kernel_rfl
@[go_sem] theorem ag73 : aggT Try.prog 73 = some true := by kernel_rfl
@[go_sem] theorem by73 : bytesT Try.prog 73 = some 112 := by kernel_rfl
@[go_sem] theorem zr73 : zeroT Try.prog 73 = some [.v (.int .i64 0), .v (.int .i64 0), .nil, .nil, .v (.int .i64 0), .v (.int .i64 0), .v (.int .i64 0), .v (.int .i64 0), .v (.int .i64 0), .v (.int .i64 0)] := by kernel_rfl
@[go_sem] theorem off73_0 : offT Try.prog 73 0 = some 0 := by kernel_rfl
@[go_sem] theorem fo73_0 : ftoT Try.prog 73 0 = some (24, 0) := by kernel_rfl
@[go_sem] theorem off73_1 : offT Try.prog 73 1 = some 3 := by kernel_rfl
@[go_sem] theorem fo73_1 : ftoT Try.prog 73 1 = some (71, 3) := by kernel_rfl
@[go_sem] theorem off73_2 : offT Try.prog 73 2 = some 4 := by kernel_rfl
@[go_sem] theorem fo73_2 : ftoT Try.prog 73 2 = some (45, 4) := by kernel_rfl
@[go_sem] theorem off73_3 : offT Try.prog 73 3 = some 8 := by kernel_rfl
@[go_sem] theorem fo73_3 : ftoT Try.prog 73 3 = some (44, 8) := by kernel_rfl
@[go_sem] theorem pl73 : placesT Try.prog 73 = some [(0, 3), (3, 1), (4, 4), (8, 2)] := by kernel_rfl
@[go_sem] theorem sz74 : szT Try.prog 74 = some 2 := by kernel_rfl
@[go_sem] theorem ag74 : aggT Try.prog 74 = some true := by kernel_rfl
@[go_sem] theorem by74 : bytesT Try.prog 74 = some 16 := by kernel_rfl
@[go_sem] theorem zr74 : zeroT Try.prog 74 = some [.v (.int .i64 0), .v (.int .i64 0)] := by kernel_rfl
@[go_sem] theorem pl74 : placesT Try.prog 74 = some [(0, 1), (1, 1)] := by kernel_rfl
@[go_sem] theorem eq74 : eqShape Try.prog 74 = some [.int .i64, .int .i64] := by kernel_rfl
@[go_sem] theorem sz75 : szT Try.prog 75 = some 4 := by kernel_rfl
@[go_sem] theorem ag75 : aggT Try.prog 75 = some true := by kernel_rfl
@[go_sem] theorem by75 : bytesT Try.prog 75 = some 32 := by kernel_rfl
@[go_sem] theorem zr75 : zeroT Try.prog 75 = some [.v (.int .i64 0), .v (.int .i64 0), .v (.int .i64 0), .v (.int .i64 0)] := by kernel_rfl
@[go_sem] theorem off75_0 : offT Try.prog 75 0 = some 0 := by kernel_rfl
@[go_sem] theorem fo75_0 : ftoT Try.prog 75 0 = some (3, 0) := by kernel_rfl
@[go_sem] theorem off75_1 : offT Try.prog 75 1 = some 1 := by kernel_rfl
@[go_sem] theorem fo75_1 : ftoT Try.prog 75 1 = some (3, 1) := by kernel_rfl
@[go_sem] theorem off75_2 : offT Try.prog 75 2 = some 2 := by kernel_rfl
@[go_sem] theorem fo75_2 : ftoT Try.prog 75 2 = some (74, 2) := by kernel_rfl
@[go_sem] theorem pl75 : placesT Try.prog 75 = some [(0, 1), (1, 1), (2, 2)] := by kernel_rfl
@[go_sem] theorem sz76 : szT Try.prog 76 = some 4 := by kernel_rfl
@[go_sem] theorem ag76 : aggT Try.prog 76 = some true := by kernel_rfl
@[go_sem] theorem by76 : bytesT Try.prog 76 = some 32 := by kernel_rfl
@[go_sem] theorem zr76 : zeroT Try.prog 76 = some [.v (.int .i64 0), .v (.int .i64 0), .v (.int .i64 0), .v (.int .i64 0)] := by kernel_rfl
@[go_sem] theorem off76_0 : offT Try.prog 76 0 = some 0 := by kernel_rfl
@[go_sem] theorem fo76_0 : ftoT Try.prog 76 0 = some (3, 0) := by kernel_rfl
@[go_sem] theorem off76_1 : offT Try.prog 76 1 = some 1 := by kernel_rfl
@[go_sem] theorem fo76_1 : ftoT Try.prog 76 1 = some (3, 1) := by kernel_rfl
@[go_sem] theorem off76_2 : offT Try.prog 76 2 = some 2 := by kernel_rfl
@[go_sem] theorem fo76_2 : ftoT Try.prog 76 2 = some (74, 2) := by kernel_rfl
@[go_sem] theorem pl76 : placesT Try.prog 76 = some [(0, 1), (1, 1), (2, 2)] := by kernel_rfl
@[go_sem] theorem sz78 : szT Try.prog 78 = some 1 := by kernel_rfl
@[go_sem] theorem ag78 : aggT Try.prog 78 = some false := by kernel_rfl
@[go_sem] theorem by78 : bytesT Try.prog 78 = some 8 := by kernel_rfl
@[go_sem] theorem sz79 : szT Try.prog 79 = some 1 := by kernel_rfl
@[go_sem] theorem ag79 : aggT Try.prog 79 = some false := by kernel_rfl
@[go_sem] theorem by79 : bytesT Try.prog 79 = some 8 := by kernel_rfl
@[go_sem] theorem sz80 : szT Try.prog 80 = some 4 := by kernel_rfl
@[go_sem] theorem ag80 : aggT Try.prog 80 = some true := by kernel_rfl
@[go_sem] theorem by80 : bytesT Try.prog 80 = some 32 := by kernel_rfl
@[go_sem] theorem zr80 : zeroT Try.prog 80 = some [.v (.int .i64 0), .v (.int .i64 0), .v (.int .i64 0), .v (.int .i64 0)] := by kernel_rfl
@[go_sem] theorem off80_0 : offT Try.prog 80 0 = some 0 := by kernel_rfl
@[go_sem] theorem fo80_0 : ftoT Try.prog 80 0 = some (3, 0) := by kernel_rfl
@[go_sem] theorem off80_1 : offT Try.prog 80 1 = some 1 := by kernel_rfl
@[go_sem] theorem fo80_1 : ftoT Try.prog 80 1 = some (3, 1) := by kernel_rfl
@[go_sem] theorem off80_2 : offT Try.prog 80 2 = some 2 := by kernel_rfl
@[go_sem] theorem fo80_2 : ftoT Try.prog 80 2 = some (74, 2) := by kernel_rfl
@[go_sem] theorem pl80 : placesT Try.prog 80 = some [(0, 1), (1, 1), (2, 2)] := by kernel_rfl
@[go_sem] theorem sz81 : szT Try.prog 81 = some 4 := by kernel_rfl
@[go_sem] theorem ag81 : aggT Try.prog 81 = some true := by kernel_rfl
@[go_sem] theorem by81 : bytesT Try.prog 81 = some 32 := by kernel_rfl
@[go_sem] theorem zr81 : zeroT Try.prog 81 = some [.v (.int .i64 0), .v (.int .i64 0), .v (.int .i64 0), .v (.int .i64 0)] := by kernel_rfl
@[go_sem] theorem off81_0 : offT Try.prog 81 0 = some 0 := by kernel_rfl
@[go_sem] theorem fo81_0 : ftoT Try.prog 81 0 = some (3, 0) := by kernel_rfl
@[go_sem] theorem off81_1 : offT Try.prog 81 1 = some 1 := by kernel_rfl
@[go_sem] theorem fo81_1 : ftoT Try.prog 81 1 = some (3, 1) := by kernel_rfl
@[go_sem] theorem off81_2 : offT Try.prog 81 2 = some 2 := by kernel_rfl
@[go_sem] theorem fo81_2 : ftoT Try.prog 81 2 = some (74, 2) := by kernel_rfl
@[go_sem] theorem pl81 : placesT Try.prog 81 = some [(0, 1), (1, 1), (2, 2)] := by kernel_rfl
@[go_sem] theorem sz82 : szT Try.prog 82 = some 1 := by kernel_rfl
@[go_sem] theorem ag82 : aggT Try.prog 82 = some false := by kernel_rfl
@[go_sem] theorem by82 : bytesT Try.prog 82 = some 8 := by kernel_rfl
@[go_sem] theorem sz83 : szT Try.prog 83 = some 1 := by kernel_rfl
@[go_sem] theorem ag83 : aggT Try.prog 83 = some false := by kernel_rfl
@[go_sem] theorem by83 : bytesT Try.prog 83 = some 8 := by kernel_rfl
@[go_sem] theorem zr83 : zeroT Try.prog 83 = some [.v (.pointer none)] := by kernel_rfl
@[go_sem] theorem sz85 : szT Try.prog 85 = some 1 := by kernel_rfl
@[go_sem] theorem ag85 : aggT Try.prog 85 = some false := by kernel_rfl
@[go_sem] theorem by85 : bytesT Try.prog 85 = some 8 := by kernel_rfl
@[go_sem] theorem sz86 : szT Try.prog 86 = some 1 := by kernel_rfl
@[go_sem] theorem ag86 : aggT Try.prog 86 = some false := by kernel_rfl
@[go_sem] theorem by86 : bytesT Try.prog 86 = some 8 := by kernel_rfl
@[go_sem] theorem sz87 : szT Try.prog 87 = some 1 := by kernel_rfl
@[go_sem] theorem ag87 : aggT Try.prog 87 = some false := by kernel_rfl
@[go_sem] theorem by87 : bytesT Try.prog 87 = some 8 := by kernel_rfl
@[go_sem] theorem sz88 : szT Try.prog 88 = some 1 := by kernel_rfl
@[go_sem] theorem ag88 : aggT Try.prog 88 = some false := by kernel_rfl
@[go_sem] theorem by88 : bytesT Try.prog 88 = some 8 := by kernel_rfl
@[go_sem] theorem sz89 : szT Try.prog 89 = some 1 := by kernel_rfl
@[go_sem] theorem ag89 : aggT Try.prog 89 = some false := by kernel_rfl
@[go_sem] theorem by89 : bytesT Try.prog 89 = some 8 := by kernel_rfl
@[go_sem] theorem sz90 : szT Try.prog 90 = some 1 := by kernel_rfl
@[go_sem] theorem ag90 : aggT Try.prog 90 = some false := by kernel_rfl
@[go_sem] theorem by90 : bytesT Try.prog 90 = some 8 := by kernel_rfl
@[go_sem] theorem sz91 : szT Try.prog 91 = some 1 := by kernel_rfl
@[go_sem] theorem ag91 : aggT Try.prog 91 = some false := by kernel_rfl
@[go_sem] theorem by91 : bytesT Try.prog 91 = some 8 := by kernel_rfl
@[go_sem] theorem sz92 : szT Try.prog 92 = some 1 := by kernel_rfl
@[go_sem] theorem ag92 : aggT Try.prog 92 = some false := by kernel_rfl
@[go_sem] theorem by92 : bytesT Try.prog 92 = some 8 := by kernel_rfl
@[go_sem] theorem zr92 : zeroT Try.prog 92 = some [.v (.pointer none)] := by kernel_rfl
@[go_sem] theorem sz93 : szT Try.prog 93 = some 1 := by kernel_rfl
@[go_sem] theorem ag93 : aggT Try.prog 93 = some false := by kernel_rfl
@[go_sem] theorem by93 : bytesT Try.prog 93 = some 8 := by kernel_rfl
@[go_sem] theorem sz94 : szT Try.prog 94 = some 1 := by kernel_rfl
@[go_sem] theorem ag94 : aggT Try.prog 94 = some false := by kernel_rfl
@[go_sem] theorem by94 : bytesT Try.prog 94 = some 8 := by kernel_rfl
@[go_sem] theorem sz95 : szT Try.prog 95 = some 1 := by kernel_rfl
@[go_sem] theorem ag95 : aggT Try.prog 95 = some false := by kernel_rfl
@[go_sem] theorem by95 : bytesT Try.prog 95 = some 8 := by kernel_rfl
@[go_sem] theorem sz96 : szT Try.prog 96 = some 1 := by kernel_rfl
@[go_sem] theorem ag96 : aggT Try.prog 96 = some false := by kernel_rfl
@[go_sem] theorem by96 : bytesT Try.prog 96 = some 8 := by kernel_rfl
@[go_sem] theorem sz97 : szT Try.prog 97 = some 1 := by kernel_rfl
@[go_sem] theorem ag97 : aggT Try.prog 97 = some false := by kernel_rfl
@[go_sem] theorem by97 : bytesT Try.prog 97 = some 8 := by kernel_rfl
@[go_sem] theorem zr97 : zeroT Try.prog 97 = some [.v (.pointer none)] := by kernel_rfl
@[go_sem] theorem sz98 : szT Try.prog 98 = some 1 := by kernel_rfl
@[go_sem] theorem ag98 : aggT Try.prog 98 = some false := by kernel_rfl
@[go_sem] theorem by98 : bytesT Try.prog 98 = some 8 := by kernel_rfl
@[go_sem] theorem sz99 : szT Try.prog 99 = some 1 := by kernel_rfl
@[go_sem] theorem ag99 : aggT Try.prog 99 = some false := by kernel_rfl
@[go_sem] theorem by99 : bytesT Try.prog 99 = some 8 := by kernel_rfl
@[go_sem] theorem sz100 : szT Try.prog 100 = some 9 := by kernel_rfl
@[go_sem] theorem ag100 : aggT Try.prog 100 = some true := by kernel_rfl
@[go_sem] theorem by100 : bytesT Try.prog 100 = some 72 := by kernel_rfl
@[go_sem] theorem zr100 : zeroT Try.prog 100 = some [.v .nilFunc, .v .nilFunc, .v .nilFunc, .v .nilFunc, .v .nilFunc, .v .nilFunc, .v .nilFunc, .v .nilFunc, .v .nilFunc] := by kernel_rfl
@[go_sem] theorem pl100 : placesT Try.prog 100 = some [(0, 1), (1, 1), (2, 1), (3, 1), (4, 1), (5, 1), (6, 1), (7, 1), (8, 1)] := by kernel_rfl
@[go_sem] theorem sz101 : szT Try.prog 101 = some 1 := by kernel_rfl
@[go_sem] theorem ag101 : aggT Try.prog 101 = some false := by kernel_rfl
@[go_sem] theorem by101 : bytesT Try.prog 101 = some 8 := by kernel_rfl
@[go_sem] theorem sz102 : szT Try.prog 102 = some 1 := by kernel_rfl
@[go_sem] theorem ag102 : aggT Try.prog 102 = some false := by kernel_rfl
@[go_sem] theorem by102 : bytesT Try.prog 102 = some 24 := by kernel_rfl
@[go_sem] theorem zr102 : zeroT Try.prog 102 = some [.nil] := by kernel_rfl
@[go_sem] theorem sz103 : szT Try.prog 103 = some 1 := by kernel_rfl
@[go_sem] theorem ag103 : aggT Try.prog 103 = some false := by kernel_rfl
@[go_sem] theorem by103 : bytesT Try.prog 103 = some 8 := by kernel_rfl
@[go_sem] theorem sz104 : szT Try.prog 104 = some 1 := by kernel_rfl
@[go_sem] theorem ag104 : aggT Try.prog 104 = some false := by kernel_rfl
@[go_sem] theorem by104 : bytesT Try.prog 104 = some 8 := by kernel_rfl
@[go_sem] theorem sz110 : szT Try.prog 110 = some 1 := by kernel_rfl
@[go_sem] theorem ag110 : aggT Try.prog 110 = some false := by kernel_rfl
@[go_sem] theorem by110 : bytesT Try.prog 110 = some 4 := by kernel_rfl
@[go_sem] theorem zr110 : zeroT Try.prog 110 = some [.v (.int .u32 0)] := by kernel_rfl
@[go_sem] theorem sz114 : szT Try.prog 114 = some 1 := by kernel_rfl
@[go_sem] theorem ag114 : aggT Try.prog 114 = some false := by kernel_rfl
@[go_sem] theorem by114 : bytesT Try.prog 114 = some 8 := by kernel_rfl
@[go_sem] theorem zr114 : zeroT Try.prog 114 = some [.v (.pointer none)] := by kernel_rfl
attribute [go_sem] Try.underlying1 Try.underlying2 Try.underlying3 Try.underlying4 Try.underlying5 Try.underlying9 Try.underlying21 Try.underlying22 Try.underlying23 Try.underlying24 Try.underlying25 Try.underlying26 Try.underlying27 Try.underlying28 Try.underlying29 Try.underlying31 Try.underlying32 Try.underlying33 Try.underlying34 Try.underlying35 Try.underlying37 Try.underlying39 Try.underlying40 Try.underlying41 Try.underlying42 Try.underlying43 Try.underlying44 Try.underlying45 Try.underlying46 Try.underlying47 Try.underlying48 Try.underlying49 Try.underlying50 Try.underlying52 Try.underlying53 Try.underlying54 Try.underlying55 Try.underlying56 Try.underlying57 Try.underlying59 Try.underlying61 Try.underlying62 Try.underlying63 Try.underlying64 Try.underlying65 Try.underlying66 Try.underlying67 Try.underlying68 Try.underlying69 Try.underlying70 Try.underlying71 Try.underlying72 Try.underlying73 Try.underlying74 Try.underlying75 Try.underlying76 Try.underlying78 Try.underlying79 Try.underlying80 Try.underlying81 Try.underlying82 Try.underlying83 Try.underlying85 Try.underlying86 Try.underlying87 Try.underlying88 Try.underlying89 Try.underlying90 Try.underlying91 Try.underlying92 Try.underlying93 Try.underlying94 Try.underlying95 Try.underlying96 Try.underlying97 Try.underlying98 Try.underlying99 Try.underlying100 Try.underlying101 Try.underlying102 Try.underlying103 Try.underlying104 Try.underlying110 Try.underlying114

theorem mixed : Try.prog.follows .mixedOrders = true := by kernel_rfl
theorem known3 : Known Try.prog 3 := ⟨Try.f3, Try.func3, rfl, by kernel_rfl⟩   -- sinnet/sinnetlaw02.StateOwn
theorem res3 : Try.f3.results = List.toArray [ResultVar.tmp 6] := rfl
theorem known4 : Known Try.prog 4 := ⟨Try.f4, Try.func4, rfl, by kernel_rfl⟩   -- sinnet/sinnetlaw02.StateFuel
theorem res4 : Try.f4.results = List.toArray [ResultVar.tmp 6] := rfl
theorem known5 : Known Try.prog 5 := ⟨Try.f5, Try.func5, rfl, by kernel_rfl⟩   -- sinnet/sinnetlaw02.StateLocks
theorem res5 : Try.f5.results = List.toArray [ResultVar.tmp 6] := rfl
theorem known6 : Known Try.prog 6 := ⟨Try.f6, Try.func6, rfl, by kernel_rfl⟩   -- sinnet/sinnetlaw02.StateWrites
theorem res6 : Try.f6.results = List.toArray [ResultVar.tmp 6] := rfl
theorem known7 : Known Try.prog 7 := ⟨Try.f7, Try.func7, rfl, by kernel_rfl⟩   -- sinnet/sinnetlaw02.StatePlays
theorem res7 : Try.f7.results = List.toArray [ResultVar.tmp 6] := rfl
theorem known8 : Known Try.prog 8 := ⟨Try.f8, Try.func8, rfl, by kernel_rfl⟩   -- sinnet/sinnetlaw02.StateNil
theorem res8 : Try.f8.results = List.toArray [ResultVar.tmp 2] := rfl
theorem known9 : Known Try.prog 9 := ⟨Try.f9, Try.func9, rfl, by kernel_rfl⟩   -- sinnet/sinnetlaw02.StateReplays
theorem res9 : Try.f9.results = List.toArray [ResultVar.tmp 6] := rfl
theorem known10 : Known Try.prog 10 := ⟨Try.f10, Try.func10, rfl, by kernel_rfl⟩   -- sinnet/sinnetlaw02.StateMore
theorem res10 : Try.f10.results = List.toArray [ResultVar.tmp 8] := rfl
theorem known11 : Known Try.prog 11 := ⟨Try.f11, Try.func11, rfl, by kernel_rfl⟩   -- sinnet/sinnetlaw03.EventThreads
theorem res11 : Try.f11.results = List.toArray [ResultVar.tmp 6] := rfl
theorem known12 : Known Try.prog 12 := ⟨Try.f12, Try.func12, rfl, by kernel_rfl⟩   -- sinnet/sinnetlaw03.EventSwaps
theorem res12 : Try.f12.results = List.toArray [ResultVar.tmp 10] := rfl
theorem known13 : Known Try.prog 13 := ⟨Try.f13, Try.func13, rfl, by kernel_rfl⟩   -- sinnet/sinnetlaw02.awake
theorem res13 : Try.f13.results = List.toArray [ResultVar.tmp 0] := rfl
theorem known14 : Known Try.prog 14 := ⟨Try.f14, Try.func14, rfl, by kernel_rfl⟩   -- sinnet/sinnetref01.Few
theorem res14 : Try.f14.results = List.toArray [ResultVar.tmp 2] := rfl
theorem known15 : Known Try.prog 15 := ⟨Try.f15, Try.func15, rfl, by kernel_rfl⟩   -- sinnet/state.New
theorem res15 : Try.f15.results = List.toArray [ResultVar.tmp 4, ResultVar.tmp 5] := rfl
theorem known16 : Known Try.prog 16 := ⟨Try.f16, Try.func16, rfl, by kernel_rfl⟩   -- (*sinnet/state.State).Threads
theorem res16 : Try.f16.results = List.toArray [ResultVar.tmp 2] := rfl
theorem known17 : Known Try.prog 17 := ⟨Try.f17, Try.func17, rfl, by kernel_rfl⟩   -- (*sinnet/state.State).Next
theorem res17 : Try.f17.results = List.toArray [ResultVar.cell 4 35, ResultVar.tmp 5] := rfl
theorem known18 : Known Try.prog 18 := ⟨Try.f18, Try.func18, rfl, by kernel_rfl⟩   -- (*sinnet/state.State).Step
theorem res18 : Try.f18.results = List.toArray [ResultVar.cell 4 35, ResultVar.tmp 5] := rfl
theorem known19 : Known Try.prog 19 := ⟨Try.f19, Try.func19, rfl, by kernel_rfl⟩   -- (*sinnet/state.State).All
theorem res19 : Try.f19.results = List.toArray [ResultVar.tmp 2] := rfl
theorem known20 : Known Try.prog 20 := ⟨Try.f20, Try.func20, rfl, by kernel_rfl⟩   -- (*sinnet/state.State).Holder
theorem res20 : Try.f20.results = List.toArray [ResultVar.tmp 4] := rfl
theorem known21 : Known Try.prog 21 := ⟨Try.f21, Try.func21, rfl, by kernel_rfl⟩   -- (*sinnet/state.State).Var
theorem res21 : Try.f21.results = List.toArray [ResultVar.tmp 4] := rfl
theorem known22 : Known Try.prog 22 := ⟨Try.f22, Try.func22, rfl, by kernel_rfl⟩   -- sinnet/sinnetref02.New
theorem res22 : Try.f22.results = List.toArray [ResultVar.tmp 4] := rfl
theorem known23 : Known Try.prog 23 := ⟨Try.f23, Try.func23, rfl, by kernel_rfl⟩   -- (*sinnet/sinnetref02.State).Next
theorem res23 : Try.f23.results = List.toArray [ResultVar.cell 4 35, ResultVar.tmp 5] := rfl
theorem known24 : Known Try.prog 24 := ⟨Try.f24, Try.func24, rfl, by kernel_rfl⟩   -- (*sinnet/state.State).Copy
theorem res24 : Try.f24.results = List.toArray [ResultVar.tmp 2] := rfl
theorem known25 : Known Try.prog 25 := ⟨Try.f25, Try.func25, rfl, by kernel_rfl⟩   -- (*sinnet/state.State).Enabled
theorem res25 : Try.f25.results = List.toArray [ResultVar.tmp 4] := rfl
theorem known26 : Known Try.prog 26 := ⟨Try.f26, Try.func26, rfl, by kernel_rfl⟩   -- (*sinnet/sinnetref02.State).Enabled
theorem res26 : Try.f26.results = List.toArray [ResultVar.tmp 4] := rfl
theorem known27 : Known Try.prog 27 := ⟨Try.f27, Try.func27, rfl, by kernel_rfl⟩   -- (*sinnet/sinnetref02.State).Step
theorem res27 : Try.f27.results = List.toArray [ResultVar.cell 4 35, ResultVar.tmp 5] := rfl
theorem known28 : Known Try.prog 28 := ⟨Try.f28, Try.func28, rfl, by kernel_rfl⟩   -- sinnet/sinnetref02.SameInts
theorem res28 : Try.f28.results = List.toArray [ResultVar.tmp 4] := rfl
theorem known29 : Known Try.prog 29 := ⟨Try.f29, Try.func29, rfl, by kernel_rfl⟩   -- (*sinnet/sinnetref02.State).All
theorem res29 : Try.f29.results = List.toArray [ResultVar.tmp 2] := rfl
theorem known30 : Known Try.prog 30 := ⟨Try.f30, Try.func30, rfl, by kernel_rfl⟩   -- sinnet/state.Replay
theorem res30 : Try.f30.results = List.toArray [ResultVar.tmp 6, ResultVar.tmp 7, ResultVar.tmp 8] := rfl
theorem known31 : Known Try.prog 31 := ⟨Try.f31, Try.func31, rfl, by kernel_rfl⟩   -- sinnet/sinnetref02.Replay
theorem res31 : Try.f31.results = List.toArray [ResultVar.tmp 6, ResultVar.tmp 7, ResultVar.tmp 8] := rfl
theorem known32 : Known Try.prog 32 := ⟨Try.f32, Try.func32, rfl, by kernel_rfl⟩   -- sinnet/sinnetref02.SameEvents
theorem res32 : Try.f32.results = List.toArray [ResultVar.tmp 4] := rfl
theorem known33 : Known Try.prog 33 := ⟨Try.f33, Try.func33, rfl, by kernel_rfl⟩   -- sinnet/sinnetlaw03.awake
theorem res33 : Try.f33.results = List.toArray [ResultVar.tmp 0] := rfl
theorem known34 : Known Try.prog 34 := ⟨Try.f34, Try.func34, rfl, by kernel_rfl⟩   -- sinnet/event.Depends
theorem res34 : Try.f34.results = List.toArray [ResultVar.tmp 4] := rfl
theorem known35 : Known Try.prog 35 := ⟨Try.f35, Try.func35, rfl, by kernel_rfl⟩   -- sinnet/prog.Right
theorem res35 : Try.f35.results = List.toArray [ResultVar.tmp 2] := rfl
theorem known36 : Known Try.prog 36 := ⟨Try.f36, Try.func36, rfl, by kernel_rfl⟩   -- sinnet/prog.Copy
theorem res36 : Try.f36.results = List.toArray [ResultVar.cell 2 24] := rfl
theorem known37 : Known Try.prog 37 := ⟨Try.f37, Try.func37, rfl, by kernel_rfl⟩   -- (*sinnet/state.State).instr
theorem res37 : Try.f37.results = List.toArray [ResultVar.cell 4 68, ResultVar.tmp 5] := rfl
theorem known38 : Known Try.prog 38 := ⟨Try.f38, Try.func38, rfl, by kernel_rfl⟩   -- (*sinnet/state.State).is
theorem res38 : Try.f38.results = List.toArray [ResultVar.tmp 4] := rfl
theorem known39 : Known Try.prog 39 := ⟨Try.f39, Try.func39, rfl, by kernel_rfl⟩   -- (*sinnet/state.State).do
theorem res39 : Try.f39.results = List.toArray [] := rfl
theorem known40 : Known Try.prog 40 := ⟨Try.f40, Try.func40, rfl, by kernel_rfl⟩   -- sinnet/sinnetref01.Right
theorem res40 : Try.f40.results = List.toArray [ResultVar.tmp 2] := rfl
theorem known41 : Known Try.prog 41 := ⟨Try.f41, Try.func41, rfl, by kernel_rfl⟩   -- slices.Clone[[]sinnet/state.thread,sinnet/state.thread]
theorem res41 : Try.f41.results = List.toArray [ResultVar.tmp 2] := rfl
theorem known42 : Known Try.prog 42 := ⟨Try.f42, Try.func42, rfl, by kernel_rfl⟩   -- sinnet/event.Read
theorem res42 : Try.f42.results = List.toArray [ResultVar.tmp 2, ResultVar.tmp 3] := rfl
theorem known43 : Known Try.prog 43 := ⟨Try.f43, Try.func43, rfl, by kernel_rfl⟩   -- sinnet/event.Print
theorem res43 : Try.f43.results = List.toArray [ResultVar.tmp 2] := rfl
theorem known44 : Known Try.prog 44 := ⟨Try.f44, Try.func44, rfl, by kernel_rfl⟩   -- sinnet/event.Right
theorem res44 : Try.f44.results = List.toArray [ResultVar.tmp 2] := rfl
theorem known45 : Known Try.prog 45 := ⟨Try.f45, Try.func45, rfl, by kernel_rfl⟩   -- sinnet/event.Threads
theorem res45 : Try.f45.results = List.toArray [ResultVar.tmp 2] := rfl
theorem known46 : Known Try.prog 46 := ⟨Try.f46, Try.func46, rfl, by kernel_rfl⟩   -- sinnet/event.class
theorem res46 : Try.f46.results = List.toArray [ResultVar.tmp 2] := rfl
theorem known47 : Known Try.prog 47 := ⟨Try.f47, Try.func47, rfl, by kernel_rfl⟩   -- sinnet/prog.within
theorem res47 : Try.f47.results = List.toArray [ResultVar.tmp 6] := rfl
theorem known48 : Known Try.prog 48 := ⟨Try.f48, Try.func48, rfl, by kernel_rfl⟩   -- sinnet/prog.Right$1
theorem res48 : Try.f48.results = List.toArray [ResultVar.tmp 4] := rfl
theorem known49 : Known Try.prog 49 := ⟨Try.f49, Try.func49, rfl, by kernel_rfl⟩   -- sinnet/prog.instr
theorem res49 : Try.f49.results = List.toArray [ResultVar.tmp 6] := rfl
theorem known50 : Known Try.prog 50 := ⟨Try.f50, Try.func50, rfl, by kernel_rfl⟩   -- slices.ContainsFunc[[]sinnet/api.Instr,sinnet/api.Instr]
theorem res50 : Try.f50.results = List.toArray [ResultVar.tmp 4] := rfl
theorem known51 : Known Try.prog 51 := ⟨Try.f51, Try.func51, rfl, by kernel_rfl⟩   -- slices.Clone[[][]sinnet/api.Instr,[]sinnet/api.Instr]
theorem res51 : Try.f51.results = List.toArray [ResultVar.tmp 2] := rfl
theorem known52 : Known Try.prog 52 := ⟨Try.f52, Try.func52, rfl, by kernel_rfl⟩   -- slices.Clone[[]sinnet/api.Instr,sinnet/api.Instr]
theorem res52 : Try.f52.results = List.toArray [ResultVar.tmp 2] := rfl
theorem known53 : Known Try.prog 53 := ⟨Try.f53, Try.func53, rfl, by kernel_rfl⟩   -- (*sinnet/state.State).load
theorem res53 : Try.f53.results = List.toArray [] := rfl
theorem known54 : Known Try.prog 54 := ⟨Try.f54, Try.func54, rfl, by kernel_rfl⟩   -- (*sinnet/state.State).store
theorem res54 : Try.f54.results = List.toArray [] := rfl
theorem known55 : Known Try.prog 55 := ⟨Try.f55, Try.func55, rfl, by kernel_rfl⟩   -- (*sinnet/state.State).set
theorem res55 : Try.f55.results = List.toArray [] := rfl
theorem known56 : Known Try.prog 56 := ⟨Try.f56, Try.func56, rfl, by kernel_rfl⟩   -- (*sinnet/state.State).add
theorem res56 : Try.f56.results = List.toArray [] := rfl
theorem known57 : Known Try.prog 57 := ⟨Try.f57, Try.func57, rfl, by kernel_rfl⟩   -- (*sinnet/state.State).lock
theorem res57 : Try.f57.results = List.toArray [] := rfl
theorem known58 : Known Try.prog 58 := ⟨Try.f58, Try.func58, rfl, by kernel_rfl⟩   -- (*sinnet/state.State).unlock
theorem res58 : Try.f58.results = List.toArray [] := rfl
theorem known59 : Known Try.prog 59 := ⟨Try.f59, Try.func59, rfl, by kernel_rfl⟩   -- (*sinnet/state.State).jump
theorem res59 : Try.f59.results = List.toArray [] := rfl
theorem known60 : Known Try.prog 60 := ⟨Try.f60, Try.func60, rfl, by kernel_rfl⟩   -- (*sinnet/state.State).assert
theorem res60 : Try.f60.results = List.toArray [] := rfl
theorem known61 : Known Try.prog 61 := ⟨Try.f61, Try.func61, rfl, by kernel_rfl⟩   -- sinnet/sinnetref01.within
theorem res61 : Try.f61.results = List.toArray [ResultVar.tmp 6] := rfl
theorem known62 : Known Try.prog 62 := ⟨Try.f62, Try.func62, rfl, by kernel_rfl⟩   -- sinnet/sinnetref01.Instr
theorem res62 : Try.f62.results = List.toArray [ResultVar.tmp 6] := rfl
theorem known63 : Known Try.prog 63 := ⟨Try.f63, Try.func63, rfl, by kernel_rfl⟩   -- slices.IndexFunc[[]sinnet/api.Instr,sinnet/api.Instr]
theorem res63 : Try.f63.results = List.toArray [ResultVar.tmp 4] := rfl
end Go.Proofs.Ytealonjmkcfneaa
